import Derived.Test.YtmnlkganmgcpbaaGreatDoorQd10
set_option maxRecDepth 100000
set_option maxHeartbeats 4000000
set_option linter.unusedVariables false
set_option linter.unusedSectionVars false
set_option linter.unusedSimpArgs false
namespace Go.Proofs.YtmnlkganmgcpbaaGreatDoor
section
open Go.RowKit
theorem AL {S:Nat} {l:List Nat} (h:ao S l):gA (S:Int) (zl l)=true:=by
 refine yk λj a=>?_;rw[dh];have:=h j;omega
theorem DO {S:Nat} {xs:List Int} (b:0<S) (h:gA (S:Int) xs=true):∃l,xs=zl l/\ao S l:=by
 refine⟨xs.map Int.toNat,?_,?_⟩
 ·unfold gA at h;rw[List.all_eq_true]at h;unfold zl;rw[List.map_map];refine(List.map_id xs).symm.trans (List.map_congr_left λx c=>?_);have:=h x c;simp at this;show x=((x.toNat:Nat):Int);omega
 ·intro i;by_cases a:i<xs.length
  ·unfold gA at h;rw[List.all_eq_true]at h;have:=h xs[i] (List.getElem_mem a);simp at this;simp[List.getD,a];omega
  ·simp[List.getD,a,b]
theorem DD {S:Nat} {l:List Nat} (h:ao S l) (hn:l.length<=4097) (a:dF l):iS (S:Int) (zl l)=true:=by
 rw[xS (by rw[aw];exact hn),AL h];rcases a with rfl|a
 ·exact .inl rfl
 ·right;rw[aw,dh];omega
theorem JU {S:Nat} {xs:List Int} (d:0<S) (h:iS (S:Int) xs=true):∃l,xs=zl l/\ao S l/\dF l/\l.length<=4097:=by
 have b:=h;unfold iS at b;simp only[Bool.and_eq_true,decide_eq_true_eq,Bool.or_eq_true,Bool.not_eq_true',decide_eq_false_iff_not]at b;obtain⟨⟨c,a⟩,e⟩:=b;obtain⟨l,rfl,hl⟩:=DO d e;refine⟨l,rfl,hl,?_,by rw[aw]at c;exact c⟩;rw[aw,dh]at a;rcases a with a|a
 ·exact .inl (List.eq_nil_of_length_eq_zero a)
 ·exact .inr oO
def oz (c s p:Int) (xs:List Int):Bool:=bL c s p&&iS s xs
theorem dr.cells {w wr:World} {C S P a n c bl b:Nat} (d:VF C S P) (e:a=S-1) (h:dr w wr C S P a n c bl b):
 (wr.cell? ⟨w.heap.size,0,none⟩=some (.int .i64 C)/\wr.cell? ⟨w.heap.size,1,none⟩=some (.int .i64 S)/\wr.cell? ⟨w.heap.size,2,none⟩=some (.int .i64 P))/\
 (wr.cell? ⟨b,0,none⟩=some (.int .i64 C)/\wr.cell? ⟨b,1,none⟩=some (.int .i64 S)/\wr.cell? ⟨b,2,none⟩=some (.slice (some ⟨c,0,none⟩) a a)/\wr.cell? ⟨b,3,none⟩=some (.slice (some ⟨bl,0,none⟩) S S))/\
 (n<a->(∃u,wr.cell? ⟨c,n,none⟩=some u)/\wr.frozen? ⟨c,n,none⟩=false/\(∃u,wr.cell? ⟨bl,fpowN S P (az S P) n,none⟩=some u)/\wr.frozen? ⟨bl,fpowN S P (az S P) n,none⟩=false):=by
 refine⟨⟨?_,?_,?_⟩,⟨?_,?_,?_,?_⟩,λhn=>⟨?_,?_,?_,?_⟩⟩
 ·rw[cell_of_row _ _ _ _ _ _ h.F];rfl
 ·rw[cell_of_row _ _ _ _ _ _ h.F];rfl
 ·rw[cell_of_row _ _ _ _ _ _ h.F];rfl
 ·rw[cell_of_row _ _ _ _ _ _ h.A];rfl
 ·rw[cell_of_row _ _ _ _ _ _ h.A];rfl
 ·rw[cell_of_row _ _ _ _ _ _ h.A];rfl
 ·rw[cell_of_row _ _ _ _ _ _ h.A];rfl
 ·rw[cell_of_row _ _ _ _ _ _ h.E,fs];refine⟨_,Option.map_eq_some_iff.2 ⟨_,List.getElem?_eq_getElem (by unfold jD;simp;omega),rfl⟩⟩
 ·exact frozen_of_row _ _ _ _ _ h.E
 ·rw[cell_of_row _ _ _ _ _ _ h.L,fs];refine⟨_,Option.map_eq_some_iff.2 ⟨_,List.getElem?_eq_getElem (by unfold kQ;simp;exact eG d n),rfl⟩⟩
 ·exact frozen_of_row _ _ _ _ _ h.L
theorem dp.setCell {W:World} {S P a bl:Nat} (h:dp W S P a bl) (p:Addr) (u:Value) (b:a≠p.block) (c:bl≠p.block):dp (W.setCell p u) S P a bl:=by
 refine⟨by simpa using h.1,by simpa using h.2.1,λi d=>?_,λx f g=>?_⟩
 ·rw[World.cell?_setCell_other W p _ u (λe=>b (by rw[e]))];exact h.2.2.1 i d
 ·rw[World.cell?_setCell_other W p _ u (λe=>c (by rw[e]))];exact h.2.2.2 x f g
theorem cT (W:World) (a b c:Obj):(((W.alloc a).alloc b).alloc c).heap[W.heap.size]?=some a/\(((W.alloc a).alloc b).alloc c).heap[W.heap.size+1]?=some b/\(((W.alloc a).alloc b).alloc c).heap[W.heap.size+1+1]?=some c:=by
 refine⟨?_,?_,?_⟩
 ·exact(Below.heap_alloc _ _ _ oT).trans ((Below.heap_alloc _ _ _ oS).trans (heap_alloc_new W a))
 ·have h:=heap_alloc_new (W.alloc a) b;refine(Below.heap_alloc _ _ _ oS).trans ?_;simpa using h
 ·have h:=heap_alloc_new ((W.alloc a).alloc b) c;simpa using h
theorem dr.drew {w wr:World} {C S P a n b bl c:Nat} (h:dr w wr C S P a n b bl c):dr w wr.drew C S P a n b bl c:=
 ⟨aj h.B,h.he,h.hl,h.hs,h.n1,h.n2,h.n3,h.F,h.R,h.E,h.L,h.A⟩
theorem dr.res {w wr:World} {C S P a n b bl c:Nat} (h:dr w wr C S P a n b bl c):
 wr.cell? ⟨w.heap.size+1,0,none⟩=some (.int .i64 0)/\wr.cell? ⟨w.heap.size+1,1,none⟩=some (.int .i64 0)/\wr.cell? ⟨w.heap.size+1,2,none⟩=some (.slice none 0 0)/\wr.cell? ⟨w.heap.size+1,3,none⟩=some (.slice none 0 0)/\∀k,wr.frozen? ⟨w.heap.size+1,k,none⟩=false:=by
 refine⟨?_,?_,?_,?_,λk=>frozen_of_row _ _ _ _ _ h.R⟩<;>(rw[cell_of_row _ _ _ _ _ _ h.R];rfl)
theorem AK (C S P:Nat) (w:World) (y:VF C S P):
 Calls Tryz.prog 155 #[cD C S P] w λe w'=>∃ad bl,e= .returned (fw C S ad bl)/\dp w' S P ad bl/\Below w.heap.size w w':=by
 have a6:=y.le;have a7:=y.aR;have z:(P:Int)<=9223372036854775807:=y.s7;have hg:=kE y;have RG:Hid (vo C S P=(((az S P:Nat):Int),0)):=by
  show _=_;unfold vo;rw[kC y,if_pos rfl];simp
 obtain⟨b,ac⟩:∃b,b=S-1:=⟨S-1,rfl⟩;have a8:1<=b:=oO;have a9:=run_make_row' (P:=Tryz.prog) 64 3 (.int .i64 0) 8 Tryz.underlying64 dm rfl .i64 .i64 b oO oO;have bb:=run_make_row' (P:=Tryz.prog) 64 3 (.int .i64 0) 8 Tryz.underlying64 dm rfl .i64 .i64 S oO oO;have bd:IntKind.i64.wrap ((S:Int)-1)=(b:Int):=by rw[aG _ oO oO];omega
 have bf:((S:Int)-1)=(b:Int):=oO;have c:=Lib.hid y;have d:=Lib.hid ac;have B:Hid (dJ (jD S P 0)=madeCells #[Value.int .i64 0] b):=by show _=_;rw[jP,vW y,ac]
 have D:Hid (dJ (kQ S P 0)=madeCells #[Value.int .i64 0] S):=by show _=_;rw[jP,yB y]
 clear ac y;have a3:Hid (∀a:World,Below ((w.alloc (pS C S P)).alloc B9).heap.size ((w.alloc (pS C S P)).alloc B9) a->w.heap.size+1<a.heap.size/\a.heap[w.heap.size]?=some (pS C S P)/\a.heap[w.heap.size+1]?=some B9/\Below w.heap.size w a):=by
  intro a A;have hs:=A.size;simp at hs;refine⟨by omega,(A.block _ oT).trans ?_,(A.block _ oS).trans ?_,((Below.refl _ _).alloc (Nat.le_refl _) _|>.alloc oS _).trans (A.mono oT)⟩
  ·exact(Below.heap_alloc _ _ _ oS).trans (heap_alloc_new w _)
  ·have:=heap_alloc_new (w.alloc (pS C S P)) B9;simpa using this
 go_enter Tryz.func155,Tryz.ntmps155
 go_wp2_with(
  go_at_call 158;refine(sf C S P _ oO z).mono ?_;rintro e a ⟨rfl,A⟩;rw[RG.out]
  have j:=Lib.hid (a3.out a A);have be:w.heap.size+1<a.heap.size:=j.out.1;have ap:w.heap.size<a.heap.size:=oO;have al:a.cell? ⟨w.heap.size,0,none⟩=some (.int .i64 C):=(cell_of_row _ _ _ _ _ _ j.out.2.1).trans rfl;have am:a.cell? ⟨w.heap.size,1,none⟩=some (.int .i64 S):=(cell_of_row _ _ _ _ _ _ j.out.2.1).trans rfl;have av:∀g,(a.alloc g).cell? ⟨w.heap.size,0,none⟩=some (.int .i64 C):=λg=>(World.cell?_alloc_lt _ _ _ (by exact ap)).trans al;have a0:∀g m,((a.alloc g).alloc m).cell? ⟨w.heap.size,0,none⟩=some (.int .i64 C):=λg m=>(World.cell?_alloc_lt _ _ _ oT).trans (av g);have a4:∀g m ab,(((a.alloc g).alloc m).alloc ab).cell? ⟨w.heap.size,0,none⟩=some (.int .i64 C):=λg m ab=>(World.cell?_alloc_lt _ _ _ oT).trans (a0 g m);have a1:∀g,(a.alloc g).cell? ⟨w.heap.size,1,none⟩=some (.int .i64 S):=λg=>(World.cell?_alloc_lt _ _ _ (by exact ap)).trans am;have a2:∀g m,((a.alloc g).alloc m).cell? ⟨w.heap.size,1,none⟩=some (.int .i64 S):=λg m=>(World.cell?_alloc_lt _ _ _ oT).trans (a1 g);have a5:∀g m ab,(((a.alloc g).alloc m).alloc ab).cell? ⟨w.heap.size,1,none⟩=some (.int .i64 S):=λg m ab=>(World.cell?_alloc_lt _ _ _ oT).trans (a2 g m)
  clear A)
 go_region
 all_goals clear al am av a0 a4 a1 a2 a5
 all_goals go_wp2
 ·go_loopw [6,28] (λx i wr=>∃n:Nat,n<=b/\i= .int .i64 (n:Nat)/\x= .int .i64 ((fpowN S P (az S P) n:Nat):Int)/\Hid (dr w wr C S P b n (a.heap.size) (a.heap.size+1) (a.heap.size+1+1))) (λ_ i _=>b-(intOf i).toNat)
  case atStart=>
   refine⟨0,Nat.zero_le _,rfl,rfl,?_⟩;refine⟨aj (ah (ah (ah j.out.2.2.2 _) _) _),by omega,by omega,by omega,by omega,by omega,by omega,?_,?_,?_,?_,?_⟩
   ·exact(Below.heap_alloc _ _ _ oT).trans ((Below.heap_alloc _ _ _ oT).trans ((Below.heap_alloc _ _ _ oO).trans j.out.2.1))
   ·exact(Below.heap_alloc _ _ _ oT).trans ((Below.heap_alloc _ _ _ oT).trans ((Below.heap_alloc _ _ _ oO).trans j.out.2.2.1))
   ·rw[B.out];exact(cT a _ _ _).1
   ·rw[D.out];exact(cT a _ _ _).2.1
   ·exact(cT a _ _ _).2.2
  case round=>
   obtain⟨n,hn,rfl,rfl,hid⟩:=hrel;obtain⟨⟨E,F,G⟩,⟨H,J,K,L⟩,f⟩:=dr.cells c.out d.out hid.out;by_cases k:n<b
   ·obtain⟨⟨u1,M⟩,N,⟨u2,s3⟩,O⟩:=f k;have q:fpowN S P (az S P) n<S:=eG c.out n;have r:=Lib.hid (dr.store c.out d.out hid.out k);have o:Hid (mulR C S P (fpowN S P (az S P) n:Nat) (az S P:Nat)=(((fpowN S P (az S P) (n+1):Nat):Int),0)):=by
     show _=_;unfold mulR;rw[gE c.out q hg];simp;rfl
    generalize fpowN S P (az S P) n=X at*;generalize l:fpowN S P (az S P) (n+1)=Y at*;have p:=Lib.hid l;clear l;clear f;go_wp2;go_region
    all_goals go_wp2_with(go_at_call 159;refine(iz C S P X (az S P) _ oO z).mono ?_;rintro e Q ⟨rfl,s⟩;rw[o.out])
    all_goals go_roundw
    all_goals try(case measure=>simp[intOf];omega)
    all_goals refine⟨n+1,by omega,by go_num,by rw[p.out],?_⟩
    all_goals exact dr.below (dr.drew r.out) s
   ·obtain rfl:n=b:=oO;obtain⟨T,U,V,W,Z⟩:=dr.res hid.out;have t:=Lib.hid (dr.qo c.out d.out hid.out);clear f;go_wp2;refine bodyPost_ret (v:= .agg #[.int .i64 C,.int .i64 S,.slice (some ⟨(a.heap.size),0,none⟩) n n,.slice (some ⟨(a.heap.size+1),0,none⟩) S S]) ?_ rfl ⟨(a.heap.size),(a.heap.size+1),?_,?_,?_⟩
    ·have u:Tryz.f155.results=#[.cell 2 200]:=oK;simp only[results,u];go_simp
    ·rw[d.out]
    ·exact(((t.out.setCell _ _ oT oT).setCell _ _ oT oT).setCell _ _ oT oT).setCell _ _ oT oT
    ·exact(((hid.out.B.setCell oS _).setCell oS _).setCell oS _).setCell oS _
 ·go_loopw [6,28] (λx i wr=>∃n:Nat,n<=b/\i= .int .i64 (n:Nat)/\x= .int .i64 ((fpowN S P (az S P) n:Nat):Int)/\Hid (dr w wr C S P b n (a.heap.size) (a.heap.size+1+1) (a.heap.size+1))) (λ_ i _=>b-(intOf i).toNat)
  case atStart=>
   refine⟨0,Nat.zero_le _,rfl,rfl,?_⟩;refine⟨aj (ah (ah (ah j.out.2.2.2 _) _) _),by omega,by omega,by omega,by omega,by omega,by omega,?_,?_,?_,?_,?_⟩
   ·exact(Below.heap_alloc _ _ _ oT).trans ((Below.heap_alloc _ _ _ oT).trans ((Below.heap_alloc _ _ _ oO).trans j.out.2.1))
   ·exact(Below.heap_alloc _ _ _ oT).trans ((Below.heap_alloc _ _ _ oT).trans ((Below.heap_alloc _ _ _ oO).trans j.out.2.2.1))
   ·rw[B.out];exact(cT a _ _ _).1
   ·rw[D.out];exact(cT a _ _ _).2.2
   ·exact(cT a _ _ _).2.1
  case round=>
   obtain⟨n,hn,rfl,rfl,hid⟩:=hrel;obtain⟨⟨E,F,G⟩,⟨H,J,K,L⟩,f⟩:=dr.cells c.out d.out hid.out;by_cases k:n<b
   ·obtain⟨⟨u1,M⟩,N,⟨u2,s3⟩,O⟩:=f k;have q:fpowN S P (az S P) n<S:=eG c.out n;have r:=Lib.hid (dr.store c.out d.out hid.out k);have o:Hid (mulR C S P (fpowN S P (az S P) n:Nat) (az S P:Nat)=(((fpowN S P (az S P) (n+1):Nat):Int),0)):=by
     show _=_;unfold mulR;rw[gE c.out q hg];simp;rfl
    generalize fpowN S P (az S P) n=X at*;generalize l:fpowN S P (az S P) (n+1)=Y at*;have p:=Lib.hid l;clear l;clear f;go_wp2;go_region
    all_goals go_wp2_with(go_at_call 159;refine(iz C S P X (az S P) _ oO z).mono ?_;rintro e Q ⟨rfl,s⟩;rw[o.out])
    all_goals go_roundw
    all_goals try(case measure=>simp[intOf];omega)
    all_goals refine⟨n+1,by omega,by go_num,by rw[p.out],?_⟩
    all_goals exact dr.below (dr.drew r.out) s
   ·obtain rfl:n=b:=oO;obtain⟨T,U,V,W,Z⟩:=dr.res hid.out;have t:=Lib.hid (dr.qo c.out d.out hid.out);clear f;go_wp2;refine bodyPost_ret (v:= .agg #[.int .i64 C,.int .i64 S,.slice (some ⟨(a.heap.size),0,none⟩) n n,.slice (some ⟨(a.heap.size+1+1),0,none⟩) S S]) ?_ rfl ⟨(a.heap.size),(a.heap.size+1+1),?_,?_,?_⟩
    ·have u:Tryz.f155.results=#[.cell 2 200]:=oK;simp only[results,u];go_simp
    ·rw[d.out]
    ·exact(((t.out.setCell _ _ oT oT).setCell _ _ oT oT).setCell _ _ oT oT).setCell _ _ oT oT
    ·exact(((hid.out.B.setCell oS _).setCell oS _).setCell oS _).setCell oS _
 ·go_loopw [6,28] (λx i wr=>∃n:Nat,n<=b/\i= .int .i64 (n:Nat)/\x= .int .i64 ((fpowN S P (az S P) n:Nat):Int)/\Hid (dr w wr C S P b n (a.heap.size+1) (a.heap.size) (a.heap.size+1+1))) (λ_ i _=>b-(intOf i).toNat)
  case atStart=>
   refine⟨0,Nat.zero_le _,rfl,rfl,?_⟩;refine⟨aj (ah (ah (ah j.out.2.2.2 _) _) _),by omega,by omega,by omega,by omega,by omega,by omega,?_,?_,?_,?_,?_⟩
   ·exact(Below.heap_alloc _ _ _ oT).trans ((Below.heap_alloc _ _ _ oT).trans ((Below.heap_alloc _ _ _ oO).trans j.out.2.1))
   ·exact(Below.heap_alloc _ _ _ oT).trans ((Below.heap_alloc _ _ _ oT).trans ((Below.heap_alloc _ _ _ oO).trans j.out.2.2.1))
   ·rw[B.out];exact(cT a _ _ _).2.1
   ·rw[D.out];exact(cT a _ _ _).1
   ·exact(cT a _ _ _).2.2
  case round=>
   obtain⟨n,hn,rfl,rfl,hid⟩:=hrel;obtain⟨⟨E,F,G⟩,⟨H,J,K,L⟩,f⟩:=dr.cells c.out d.out hid.out;by_cases k:n<b
   ·obtain⟨⟨u1,M⟩,N,⟨u2,s3⟩,O⟩:=f k;have q:fpowN S P (az S P) n<S:=eG c.out n;have r:=Lib.hid (dr.store c.out d.out hid.out k);have o:Hid (mulR C S P (fpowN S P (az S P) n:Nat) (az S P:Nat)=(((fpowN S P (az S P) (n+1):Nat):Int),0)):=by
     show _=_;unfold mulR;rw[gE c.out q hg];simp;rfl
    generalize fpowN S P (az S P) n=X at*;generalize l:fpowN S P (az S P) (n+1)=Y at*;have p:=Lib.hid l;clear l;clear f;go_wp2;go_region
    all_goals go_wp2_with(go_at_call 159;refine(iz C S P X (az S P) _ oO z).mono ?_;rintro e Q ⟨rfl,s⟩;rw[o.out])
    all_goals go_roundw
    all_goals try(case measure=>simp[intOf];omega)
    all_goals refine⟨n+1,by omega,by go_num,by rw[p.out],?_⟩
    all_goals exact dr.below (dr.drew r.out) s
   ·obtain rfl:n=b:=oO;obtain⟨T,U,V,W,Z⟩:=dr.res hid.out;have t:=Lib.hid (dr.qo c.out d.out hid.out);clear f;go_wp2;refine bodyPost_ret (v:= .agg #[.int .i64 C,.int .i64 S,.slice (some ⟨(a.heap.size+1),0,none⟩) n n,.slice (some ⟨(a.heap.size),0,none⟩) S S]) ?_ rfl ⟨(a.heap.size+1),(a.heap.size),?_,?_,?_⟩
    ·have u:Tryz.f155.results=#[.cell 2 200]:=oK;simp only[results,u];go_simp
    ·rw[d.out]
    ·exact(((t.out.setCell _ _ oT oT).setCell _ _ oT oT).setCell _ _ oT oT).setCell _ _ oT oT
    ·exact(((hid.out.B.setCell oS _).setCell oS _).setCell oS _).setCell oS _
 ·go_loopw [6,28] (λx i wr=>∃n:Nat,n<=b/\i= .int .i64 (n:Nat)/\x= .int .i64 ((fpowN S P (az S P) n:Nat):Int)/\Hid (dr w wr C S P b n (a.heap.size+1+1) (a.heap.size) (a.heap.size+1))) (λ_ i _=>b-(intOf i).toNat)
  case atStart=>
   refine⟨0,Nat.zero_le _,rfl,rfl,?_⟩;refine⟨aj (ah (ah (ah j.out.2.2.2 _) _) _),by omega,by omega,by omega,by omega,by omega,by omega,?_,?_,?_,?_,?_⟩
   ·exact(Below.heap_alloc _ _ _ oT).trans ((Below.heap_alloc _ _ _ oT).trans ((Below.heap_alloc _ _ _ oO).trans j.out.2.1))
   ·exact(Below.heap_alloc _ _ _ oT).trans ((Below.heap_alloc _ _ _ oT).trans ((Below.heap_alloc _ _ _ oO).trans j.out.2.2.1))
   ·rw[B.out];exact(cT a _ _ _).2.2
   ·rw[D.out];exact(cT a _ _ _).1
   ·exact(cT a _ _ _).2.1
  case round=>
   obtain⟨n,hn,rfl,rfl,hid⟩:=hrel;obtain⟨⟨E,F,G⟩,⟨H,J,K,L⟩,f⟩:=dr.cells c.out d.out hid.out;by_cases k:n<b
   ·obtain⟨⟨u1,M⟩,N,⟨u2,s3⟩,O⟩:=f k;have q:fpowN S P (az S P) n<S:=eG c.out n;have r:=Lib.hid (dr.store c.out d.out hid.out k);have o:Hid (mulR C S P (fpowN S P (az S P) n:Nat) (az S P:Nat)=(((fpowN S P (az S P) (n+1):Nat):Int),0)):=by
     show _=_;unfold mulR;rw[gE c.out q hg];simp;rfl
    generalize fpowN S P (az S P) n=X at*;generalize l:fpowN S P (az S P) (n+1)=Y at*;have p:=Lib.hid l;clear l;clear f;go_wp2;go_region
    all_goals go_wp2_with(go_at_call 159;refine(iz C S P X (az S P) _ oO z).mono ?_;rintro e Q ⟨rfl,s⟩;rw[o.out])
    all_goals go_roundw
    all_goals try(case measure=>simp[intOf];omega)
    all_goals refine⟨n+1,by omega,by go_num,by rw[p.out],?_⟩
    all_goals exact dr.below (dr.drew r.out) s
   ·obtain rfl:n=b:=oO;obtain⟨T,U,V,W,Z⟩:=dr.res hid.out;have t:=Lib.hid (dr.qo c.out d.out hid.out);clear f;go_wp2;refine bodyPost_ret (v:= .agg #[.int .i64 C,.int .i64 S,.slice (some ⟨(a.heap.size+1+1),0,none⟩) n n,.slice (some ⟨(a.heap.size),0,none⟩) S S]) ?_ rfl ⟨(a.heap.size+1+1),(a.heap.size),?_,?_,?_⟩
    ·have u:Tryz.f155.results=#[.cell 2 200]:=oK;simp only[results,u];go_simp
    ·rw[d.out]
    ·exact(((t.out.setCell _ _ oT oT).setCell _ _ oT oT).setCell _ _ oT oT).setCell _ _ oT oT
    ·exact(((hid.out.B.setCell oS _).setCell oS _).setCell oS _).setCell oS _
 ·go_loopw [6,28] (λx i wr=>∃n:Nat,n<=b/\i= .int .i64 (n:Nat)/\x= .int .i64 ((fpowN S P (az S P) n:Nat):Int)/\Hid (dr w wr C S P b n (a.heap.size+1) (a.heap.size+1+1) (a.heap.size))) (λ_ i _=>b-(intOf i).toNat)
  case atStart=>
   refine⟨0,Nat.zero_le _,rfl,rfl,?_⟩;refine⟨aj (ah (ah (ah j.out.2.2.2 _) _) _),by omega,by omega,by omega,by omega,by omega,by omega,?_,?_,?_,?_,?_⟩
   ·exact(Below.heap_alloc _ _ _ oT).trans ((Below.heap_alloc _ _ _ oT).trans ((Below.heap_alloc _ _ _ oO).trans j.out.2.1))
   ·exact(Below.heap_alloc _ _ _ oT).trans ((Below.heap_alloc _ _ _ oT).trans ((Below.heap_alloc _ _ _ oO).trans j.out.2.2.1))
   ·rw[B.out];exact(cT a _ _ _).2.1
   ·rw[D.out];exact(cT a _ _ _).2.2
   ·exact(cT a _ _ _).1
  case round=>
   obtain⟨n,hn,rfl,rfl,hid⟩:=hrel;obtain⟨⟨E,F,G⟩,⟨H,J,K,L⟩,f⟩:=dr.cells c.out d.out hid.out;by_cases k:n<b
   ·obtain⟨⟨u1,M⟩,N,⟨u2,s3⟩,O⟩:=f k;have q:fpowN S P (az S P) n<S:=eG c.out n;have r:=Lib.hid (dr.store c.out d.out hid.out k);have o:Hid (mulR C S P (fpowN S P (az S P) n:Nat) (az S P:Nat)=(((fpowN S P (az S P) (n+1):Nat):Int),0)):=by
     show _=_;unfold mulR;rw[gE c.out q hg];simp;rfl
    generalize fpowN S P (az S P) n=X at*;generalize l:fpowN S P (az S P) (n+1)=Y at*;have p:=Lib.hid l;clear l;clear f;go_wp2;go_region
    all_goals go_wp2_with(go_at_call 159;refine(iz C S P X (az S P) _ oO z).mono ?_;rintro e Q ⟨rfl,s⟩;rw[o.out])
    all_goals go_roundw
    all_goals try(case measure=>simp[intOf];omega)
    all_goals refine⟨n+1,by omega,by go_num,by rw[p.out],?_⟩
    all_goals exact dr.below (dr.drew r.out) s
   ·obtain rfl:n=b:=oO;obtain⟨T,U,V,W,Z⟩:=dr.res hid.out;have t:=Lib.hid (dr.qo c.out d.out hid.out);clear f;go_wp2;refine bodyPost_ret (v:= .agg #[.int .i64 C,.int .i64 S,.slice (some ⟨(a.heap.size+1),0,none⟩) n n,.slice (some ⟨(a.heap.size+1+1),0,none⟩) S S]) ?_ rfl ⟨(a.heap.size+1),(a.heap.size+1+1),?_,?_,?_⟩
    ·have u:Tryz.f155.results=#[.cell 2 200]:=oK;simp only[results,u];go_simp
    ·rw[d.out]
    ·exact(((t.out.setCell _ _ oT oT).setCell _ _ oT oT).setCell _ _ oT oT).setCell _ _ oT oT
    ·exact(((hid.out.B.setCell oS _).setCell oS _).setCell oS _).setCell oS _
 ·go_loopw [6,28] (λx i wr=>∃n:Nat,n<=b/\i= .int .i64 (n:Nat)/\x= .int .i64 ((fpowN S P (az S P) n:Nat):Int)/\Hid (dr w wr C S P b n (a.heap.size+1+1) (a.heap.size+1) (a.heap.size))) (λ_ i _=>b-(intOf i).toNat)
  case atStart=>
   refine⟨0,Nat.zero_le _,rfl,rfl,?_⟩;refine⟨aj (ah (ah (ah j.out.2.2.2 _) _) _),by omega,by omega,by omega,by omega,by omega,by omega,?_,?_,?_,?_,?_⟩
   ·exact(Below.heap_alloc _ _ _ oT).trans ((Below.heap_alloc _ _ _ oT).trans ((Below.heap_alloc _ _ _ oO).trans j.out.2.1))
   ·exact(Below.heap_alloc _ _ _ oT).trans ((Below.heap_alloc _ _ _ oT).trans ((Below.heap_alloc _ _ _ oO).trans j.out.2.2.1))
   ·rw[B.out];exact(cT a _ _ _).2.2
   ·rw[D.out];exact(cT a _ _ _).2.1
   ·exact(cT a _ _ _).1
  case round=>
   obtain⟨n,hn,rfl,rfl,hid⟩:=hrel;obtain⟨⟨E,F,G⟩,⟨H,J,K,L⟩,f⟩:=dr.cells c.out d.out hid.out;by_cases k:n<b
   ·obtain⟨⟨u1,M⟩,N,⟨u2,s3⟩,O⟩:=f k;have q:fpowN S P (az S P) n<S:=eG c.out n;have r:=Lib.hid (dr.store c.out d.out hid.out k);have o:Hid (mulR C S P (fpowN S P (az S P) n:Nat) (az S P:Nat)=(((fpowN S P (az S P) (n+1):Nat):Int),0)):=by
     show _=_;unfold mulR;rw[gE c.out q hg];simp;rfl
    generalize fpowN S P (az S P) n=X at*;generalize l:fpowN S P (az S P) (n+1)=Y at*;have p:=Lib.hid l;clear l;clear f;go_wp2;go_region
    all_goals go_wp2_with(go_at_call 159;refine(iz C S P X (az S P) _ oO z).mono ?_;rintro e Q ⟨rfl,s⟩;rw[o.out])
    all_goals go_roundw
    all_goals try(case measure=>simp[intOf];omega)
    all_goals refine⟨n+1,by omega,by go_num,by rw[p.out],?_⟩
    all_goals exact dr.below (dr.drew r.out) s
   ·obtain rfl:n=b:=oO;obtain⟨T,U,V,W,Z⟩:=dr.res hid.out;have t:=Lib.hid (dr.qo c.out d.out hid.out);clear f;go_wp2;refine bodyPost_ret (v:= .agg #[.int .i64 C,.int .i64 S,.slice (some ⟨(a.heap.size+1+1),0,none⟩) n n,.slice (some ⟨(a.heap.size+1),0,none⟩) S S]) ?_ rfl ⟨(a.heap.size+1+1),(a.heap.size+1),?_,?_,?_⟩
    ·have u:Tryz.f155.results=#[.cell 2 200]:=oK;simp only[results,u];go_simp
    ·rw[d.out]
    ·exact(((t.out.setCell _ _ oT oT).setCell _ _ oT oT).setCell _ _ oT oT).setCell _ _ oT oT
    ·exact(((hid.out.B.setCell oS _).setCell oS _).setCell oS _).setCell oS _
def kS (w:World) (L:List Int×Int) (e:Ending) (w':World):Prop:=∃v,e= .returned (.tuple #[v,.int .i64 L.2])/\aB w' v L.1/\Below w.heap.size w w'
theorem kS.mk {w w':World} {R:List Int×Int} {v:Value} {L:List Int} {err:Int} (h:R=(L,err)) (a:aB w' v L) (hb:Below w.heap.size w w'):kS w R (.returned (.tuple #[v,.int .i64 err])) w':=by
 subst h;exact⟨v,rfl,a,hb⟩
abbrev nl (xs:List Int):List Nat:=xs.map Int.toNat
theorem ru (l:List Nat):nl (zl l)=l:=by
 unfold nl zl;rw[List.map_map];exact(List.map_congr_left λx _=>(rfl:(Int.toNat∘λn:Nat=>(n:Int)) x=x)).trans (List.map_id l)
theorem Dl {c s p:Int} {xs:List Int} (h:oz c s p xs=true):∃(C S P:Nat) (l:List Nat),c=C/\s=S/\p=P/\xs=zl l/\VF C S P/\ao S l/\dF l/\l.length<=4097:=by
 unfold oz at h;rw[Bool.and_eq_true]at h;obtain⟨C,S,P,rfl,rfl,rfl,a⟩:=qy h.1;obtain⟨l,rfl,b,d,e⟩:=JU (by have:=a.aR;omega) h.2;exact⟨C,S,P,l,rfl,rfl,rfl,rfl,a,b,d,e⟩
theorem KD (c s p:Int) (xs ys:List Int):(bL c s p&&[(⟨none,0,0,xs⟩:Sl),⟨none,0,0,ys⟩].all λq=>iS s q.xs)=(oz c s p xs&&oz c s p ys):=by
 unfold oz;simp only[List.all_cons,List.all_nil];cases bL c s p<;>simp
theorem ya (c s p:Int) (A B:Option Addr) (n a m d:Nat) (xs ys:List Int) (b:Nat) (w:World) (t:TypeId) (f:p<=9223372036854775807) (hb:b=w.heap.size)
 (hq:(⟨A,n,a,xs⟩:Sl).R w) (g:(⟨B,m,d,ys⟩:Sl).R w):
 Calls Tryz.prog 154 #[cD c s p,.slice (some ⟨b,0,none⟩) 2 2] (w.alloc (.cells #[.slice A n a,.slice B m d] t)) λe w'=>e= .returned (.bool (oz c s p xs&&oz c s p ys))/\Below w.heap.size w w':=
 (xq c s p (some ⟨b,0,none⟩) 2 2 [⟨A,n,a,xs⟩,⟨B,m,d,ys⟩] _ rfl oO f (sj.two (q:=⟨A,n,a,xs⟩) (r:=⟨B,m,d,ys⟩) t b hb hq g)).mono λe w' ⟨i,j⟩=>⟨i.trans (bP (KD c s p xs ys)),ae ((Below.refl _ _).alloc (Nat.le_refl _) _) j⟩
theorem uh (c s p:Int) (w:World) (a:p<=9223372036854775807):
 Calls Tryz.prog 154 #[cD c s p,.slice none 0 0] w λe w'=>e= .returned (.bool (bL c s p))/\Below w.heap.size w w':=
 (xq c s p none 0 0 [] w rfl oO a (sj.dO _ _)).mono λe w' ⟨b,d⟩=>⟨b.trans (bP oS),d⟩
end
section
open Fl
section
variable {K : Type} [Fl K]
def cC (a:Nat->K):Nat->K:=λn=>a (n+1)
def conv:(Nat->K)->(Nat->K)->Nat->K
 |a,b,0=>a 0* b 0
 |a,b,n+1=>a 0* b (n+1)+conv (cC a) b n
theorem dA (a b:Nat->K):conv a b 0=a 0* b 0:=rfl
theorem bZ (a b:Nat->K) (n:Nat):conv a b (n+1)=a 0* b (n+1)+conv (cC a) b n:=rfl
theorem eX {a a' b b':Nat->K} {n:Nat} (c:∀k,k<=n->a k=a' k) (hb:∀k,k<=n->b k=b' k):conv a b n=conv a' b' n:=by
 induction n generalizing a a' with
 |zero=>rw[dA,dA,c 0 (Nat.le_refl _),hb 0 (Nat.le_refl _)]
 |succ n d=>
  rw[bZ,bZ,c 0 oO,hb (n+1) oO,d (a:=cC a) (a':=cC a') (λk e=>c (k+1) oO) (λk e=>hb k oO)]
theorem fK {a b:Nat->K} {n:Nat} (c:∀k,a k=0):conv a b n=0:=by
 induction n generalizing a with
 |zero=>rw[dA,c,bV]
 |succ n d=>rw[bZ,c,bV,d (a:=cC a) (λk=>c (k+1)),cA]
theorem KG (a b:Nat->K) (n:Nat):conv a b (n+1)=conv a (cC b) n+a (n+1)* b 0:=by
 induction n generalizing a with
 |zero=>rfl
 |succ n c=>
  rw[bZ,c,bZ a (cC b)];show a 0* b (n+1+1)+(conv (cC a) (cC b) n+a (n+1+1)* b 0)=a 0* b (n+1+1)+conv (cC a) (cC b) n+a (n+1+1)* b 0
  rw[iE]
theorem jt (a b:Nat->K) (n:Nat):conv a b n=conv b a n:=by
 induction n generalizing a with
 |zero=>rw[dA,dA,cd]
 |succ n c=>rw[bZ,KG,c (cC a),fe,cd]
theorem iA (a b c:Nat->K) (n:Nat):conv (λk=>a k+b k) c n=conv a c n+conv b c n:=by
 induction n generalizing a b with
 |zero=>rw[dA,dA,dA,iP]
 |succ n d=>
  rw[bZ,bZ,bZ];rw[show conv (cC λk=>a k+b k) c n=conv (cC a) c n+conv (cC b) c n from d (cC a) (cC b),iP]
  ac_rfl
theorem qu (r:K) (a c:Nat->K) (n:Nat):conv (λk=>r* a k) c n=r* conv a c n:=by
 induction n generalizing a with
 |zero=>rw[dA,dA,di]
 |succ n b=>
  rw[bZ,bZ,show conv (cC λk=>r* a k) c n=r* conv (cC a) c n from b (cC a),gX,di]
theorem qf (a b c:Nat->K) (n:Nat):conv a (λk=>b k+c k) n=conv a b n+conv a c n:=by
 rw[jt,iA,jt b,jt c]
theorem zD (a c:Nat->K) (n:Nat):conv (λk=>-a k) c n=-conv a c n:=by
 apply fA (a:=conv a c n);rw[<-iA,eK];exact fK λk=>eK _
theorem zF (a b c:Nat->K) (n:Nat):conv (λk=>a k-b k) c n=conv a c n-conv b c n:=by
 rw[show conv (λk=>a k-b k) c n=conv (λk=>a k+-b k) c n from rfl,iA a (λk=>-b k),zD];rfl
theorem l7 (a b c:Nat->K) (n:Nat):conv (conv a b) c n=conv a (conv b c) n:=by
 induction n generalizing a with
 |zero=>rw[dA,dA,dA,dA,di]
 |succ n d=>
  have e:conv (cC (conv a b)) c n=a 0* conv (cC b) c n+conv (cC a) (conv b c) n:=by
   rw[<-d,<-qu (a 0) (cC b),<-iA];exact eX (λk _=>by show conv a b (k+1)=_;rw[bZ];rfl) (λ_ _=>rfl)
  rw[bZ,e,bZ a (conv b c),dA,bZ b c,gX,di,iE]
def iM (r:K):Nat->K:=λn=>if n=0 then r else 0
theorem mJ (r:K) (b:Nat->K) (n:Nat):conv (iM r) b n=r* b n:=by
 cases n with
 |zero=>rfl
 |succ n=>
  rw[bZ,fK (a:=cC (iM r)) (λk=>rfl),aX];rfl
def cR (d:Nat) (a:Nat->K):Prop:=∀i,d<=i->a i=0
theorem cR.mono {d e:Nat} {a:Nat->K} (h:cR d a) (c:d<=e):cR e a:=λi b=>h i oO
theorem cR.tl {d:Nat} {a:Nat->K} (h:cR (d+1) a):cR d (cC a):=λi b=>h (i+1) oO
theorem cR.all {a:Nat->K} (h:cR 0 a) (k:Nat):a k=0:=h k (Nat.zero_le _)
theorem cR.conv {a b:Nat->K} {d e:Nat} (c:cR d a) (hb:cR e b) (n:Nat) (hn:d+e<=n+1):conv a b n=0:=by
 induction n generalizing a d with
 |zero=>
  rw[dA];rcases Nat.eq_zero_or_pos d with h|h
  ·subst h;rw[c.all,bV]
  ·rw[hb 0 oO,aW]
 |succ n f=>
  rcases Nat.eq_zero_or_pos d with h|h
  ·subst h;exact fK c.all
  ·obtain⟨d,rfl⟩:∃k,d=k+1:=⟨d-1,by omega⟩;rw[bZ,hb (n+1) oO,aW,f c.tl oO,aX]
theorem JY {a b:Nat->K} {d e:Nat} (c:cR (d+1) a) (hb:cR (e+1) b):conv a b (d+e)=a d* b e:=by
 induction d generalizing a with
 |zero=>
  rw[Nat.zero_add];cases e with
  |zero=>rfl
  |succ e=>rw[bZ,fK c.tl.all,aX]
 |succ d f=>
  rw[show d+1+e=(d+e)+1 from by omega,bZ,hb _ oO,aW,cA,f c.tl];rfl
def bU (x:K):(Nat->K)->Nat->K
 |_,0=>0
 |f,n+1=>f 0+x* bU x (cC f) n
theorem cJ (x:K) (f:Nat->K) (n:Nat):bU x f (n+1)=f 0+x* bU x (cC f) n:=rfl
theorem gV {x:K} {f g:Nat->K} {n:Nat} (h:∀i,i<n->f i=g i):bU x f n=bU x g n:=by
 induction n generalizing f g with
 |zero=>rfl
 |succ n a=>rw[cJ,cJ,h 0 oO,a (f:=cC f) (g:=cC g) (λi b=>h (i+1) oO)]
theorem vA {x:K} {f:Nat->K} (h:∀i,f i=0) (n:Nat):bU x f n=0:=by
 induction n generalizing f with
 |zero=>rfl
 |succ n a=>rw[cJ,h,a (f:=cC f) (λi=>h (i+1)),aW,aX]
theorem fZ {x:K} {f:Nat->K} {n m:Nat} (h:cR n f) (b:n<=m):bU x f m=bU x f n:=by
 induction n generalizing f m with
 |zero=>exact vA h.all m
 |succ n a=>
  obtain⟨m,rfl⟩:∃k,m=k+1:=⟨m-1,by omega⟩;rw[cJ,cJ,a h.tl oO]
theorem nX (x:K) (f g:Nat->K) (n:Nat):bU x (λk=>f k+g k) n=bU x f n+bU x g n:=by
 induction n generalizing f g with
 |zero=>exact(cA _).symm
 |succ n a=>
  rw[cJ,cJ,cJ,show bU x (cC λk=>f k+g k) n=bU x (cC f) n+bU x (cC g) n from a (cC f) (cC g),gX]
  ac_rfl
theorem rq (x r:K) (f:Nat->K) (n:Nat):bU x (λk=>r* f k) n=r* bU x f n:=by
 induction n generalizing f with
 |zero=>exact(aW _).symm
 |succ n a=>
  rw[cJ,cJ,show bU x (cC λk=>r* f k) n=r* bU x (cC f) n from a (cC f),gX]
  ac_rfl
theorem La (x:K) (f:Nat->K) (n:Nat):bU x (λk=>-f k) n=-bU x f n:=by
 apply fA (a:=bU x f n);rw[<-nX,eK];exact vA (λk=>eK _) n
theorem Ee (x:K) (f g:Nat->K) (n:Nat):bU x (λk=>f k-g k) n=bU x f n-bU x g n:=by
 rw[show bU x (λk=>f k-g k) n=bU x (λk=>f k+-g k) n from rfl,nX x f (λk=>-g k),La];rfl
theorem Bg {x:K} {a b:Nat->K} {d e:Nat} (c:cR d a) (hb:cR e b):bU x (conv a b) (d+e)=bU x a d* bU x b e:=by
 induction d generalizing a with
 |zero=>rw[show bU x a 0=0 from rfl,bV];exact vA (λi=>fK c.all) _
 |succ d f=>
  rw[show d+1+e=(d+e)+1 from by omega,cJ,cJ];have e1:bU x (cC (conv a b)) (d+e)=a 0* bU x (cC b) (d+e)+bU x (conv (cC a) b) (d+e):=by
   rw[<-rq,<-nX];rfl
  have e2:bU x b e=b 0+x* bU x (cC b) (d+e):=by
   rw[<-cJ];exact(fZ hb oO).symm
  rw[e1,f c.tl,dA,iP,gX,e2,gX];simp only[gX]
  ac_rfl
theorem K7 (x:K) (f:Nat->K) (n:Nat):bU x f (n+1)=bU x f n+f n* x^n:=by
 induction n generalizing f with
 |zero=>rw[cJ];show f 0+x* 0=0+f 0* x^0;rw[aW,jm,gl,fe]
 |succ n a=>
  rw[cJ,a (cC f),cJ x f n,gX,eE];show f 0+(x* bU x (cC f) n+x* (f (n+1)* x^n))=f 0+x* bU x (cC f) n+f (n+1)* (x^n* x)
  ac_rfl
theorem JL (x:K) (f:Nat->K) (n:Nat):ev x ((List.range n).map f)=bU x f n:=by
 induction n generalizing f with
 |zero=>rfl
 |succ n a=>
  rw[List.range_succ_eq_map,List.map_cons,List.map_map,cJ,<-a (cC f)];rfl
theorem EO {a:Nat->K} {n:Nat} (h:cR n a) (k:∃i,a i≠0):∃d,d<n/\a d≠0/\cR (d+1) a:=by
 induction n with
 |zero=>obtain⟨i,b⟩:=k;exact absurd (h.all i) b
 |succ n f=>
  by_cases c:a n=0
  ·obtain⟨d,l,g,j⟩:=f (λi b=>by
    by_cases e:i=n
    ·rw[e];exact c
    ·exact h i oO)
   exact⟨d,by omega,g,j⟩
  ·exact⟨n,by omega,c,h⟩
theorem CM {f:Nat->K} {n:Nat} (a:cR n f) (l:List K) (hl:l.Nodup) (hn:n<=l.length) (b:∀x∈l,bU x f n=0) (i:Nat):f i=0:=by
 apply Classical.byContradiction;intro c;obtain⟨d,j,e,hs⟩:=EO a ⟨i,c⟩
 have:=BX ((List.range (d+1)).map f) (f d) (by rw[List.range_succ];simp) e l hl (λx g=>by
  rw[JL];have:=b x g;rw[fZ hs oO]at this
  exact this)
 simp at this;omega
def il (n:Nat) (a:K):K:=match n with
 |0=>0
 |n+1=>il n a+a
theorem KB (n:Nat) (a b:K):il n (a+b)=il n a+il n b:=by
 induction n with
 |zero=>exact(cA _).symm
 |succ n c=>show il n (a+b)+(a+b)=(il n a+a)+(il n b+b);rw[c];ac_rfl
theorem D8 (n:Nat) (a b:K):il n (a* b)=il n a* b:=by
 induction n with
 |zero=>exact(bV _).symm
 |succ n c=>show il n (a* b)+a* b=(il n a+a)* b;rw[c,iP]
theorem vE (n:Nat):il n (0:K)=0:=by
 induction n with
 |zero=>rfl
 |succ n a=>show il n (0:K)+0=0;rw[a,aX]
def jW (a:Nat->K):Nat->K:=λn=>il (n+1) (a (n+1))
def sh (a:Nat->K):Nat->K
 |0=>0
 |n+1=>a n
theorem Gg (a:Nat->K) (n:Nat):jW a n=cC a n+sh (jW (cC a)) n:=by
 cases n with
 |zero=>show il 0 (a 1)+a 1=a 1+0;rw[show il 0 (a 1)=0 from rfl,cA,aX]
 |succ n=>show il (n+1) (a (n+1+1))+a (n+1+1)=a (n+1+1)+il (n+1) (a (n+1+1));rw[fe]
theorem DI (a b:Nat->K) (n:Nat):conv (sh a) b n=sh (conv a b) n:=by
 cases n with
 |zero=>exact bV _
 |succ n=>rw[bZ];show(0:K)* _+conv (cC (sh a)) b n=conv a b n;rw[bV,cA];rfl
theorem J9 (a b:Nat->K) (n:Nat):jW (conv a b) n=conv (jW a) b n+conv a (jW b) n:=by
 induction n generalizing a with
 |zero=>
  show il 0 (conv a b 1)+conv a b 1=(il 0 (a 1)+a 1)* b 0+a 0* (il 0 (b 1)+b 1)
  have z:∀u:K,il 0 u+u=u:=λu=>cA u;rw[z,z,z];show a 0* b 1+a 1* b 0=_;rw[fe]
 |succ n c=>
  have e1:jW (conv a b) (n+1)=a 0* jW b (n+1)+(conv (cC a) b (n+1)+jW (conv (cC a) b) n):=by
   show il (n+1+1) (conv a b (n+1+1))=_;rw[bZ,KB];congr 1
   ·rw[cd,D8,cd];rfl
   ·show il (n+1) (conv (cC a) b (n+1))+conv (cC a) b (n+1)=_
    rw[fe];rfl
  have e2:conv (jW a) b (n+1)=conv (cC a) b (n+1)+conv (jW (cC a)) b n:=by
   rw[eX (a:=jW a) (a':=λk=>cC a k+sh (jW (cC a)) k) (b:=b) (b':=b) (λk _=>Gg a k) (λ_ _=>rfl),iA,DI];rfl
  rw[e1,e2,c,bZ a (jW b)]
  ac_rfl
def dw (f:Nat->K):Nat->K
 |0=>0
 |n+1=>dw f n+f n
theorem xB (f:Nat->K) (n:Nat):dw f (n+1)=f 0+dw (cC f) n:=by
 induction n with
 |zero=>show(0:K)+f 0=f 0+0;rw[fe]
 |succ n a=>show dw f (n+1)+f (n+1)=f 0+(dw (cC f) n+cC f n);rw[a,iE];rfl
theorem iK {f g:Nat->K} {n:Nat} (h:∀k,k<n->f k=g k):dw f n=dw g n:=by
 induction n with
 |zero=>rfl
 |succ n a=>show dw f n+f n=dw g n+g n;rw[a λk b=>h k oO,h n oO]
theorem rh {f:Nat->K} {n m:Nat} (h:∀k,n<=k->k<m->f k=0) (c:n<=m):dw f m=dw f n:=by
 induction m with
 |zero=>rw[show n=0 from by omega]
 |succ m a=>
  by_cases e:n=m+1
  ·rw[e]
  ·show dw f m+f m=_;rw[h m oO oO,aX,a (λk b d=>h k b oO) oO]
theorem o6 (a b:Nat->K) (n:Nat):conv a b n=dw (λk=>a k* b (n-k)) (n+1):=by
 induction n generalizing a with
 |zero=>exact(cA _).symm
 |succ n c=>
  rw[xB,bZ,c];congr 1;apply iK;intro k d;show a (k+1)* b (n-k)=a (k+1)* b (n+1-(k+1));rw[show n+1-(k+1)=n-k from by omega]
end
def KF {c s p:Nat} (h:VF c s p):Type:=El s
instance{c s p:Nat} (h:VF c s p):Fl (KF h):=eN h
theorem lk {l:List Nat} {i:Nat} (a:l.length<=i):l.getD i 0=0:=by
 rw[List.getD,List.getElem?_eq_none a];rfl
theorem jB {s:Nat} {l:List Nat} (hl:ao s l):ao s (ej l):=λi=>by rw[qN];exact hl i
theorem K9 {s p:Nat} (a b:List Nat) (M d k:Nat) (j:Nat) (g:j<M-k):(qL s p a b M d k).getD j 0=0:=by
 induction k with
 |zero=>
  by_cases e:j<d
  ·simp[qL,List.getD,e]
  ·simp[qL,List.getD,e]
 |succ k f=>
  show((qL s p a b M d k).set (M-1-k) _).getD j 0=0;have:=f oO;rw[List.getD,List.getElem?_set_ne oO];exact this
section
variable {c s p : Nat} (h : VF c s p)
def aU (n:Nat):KF h:=(⟨n%s,Nat.mod_lt _ (by have:=h.aR;omega)⟩:El s)
def mono (i:Nat) (u:KF h):Nat->KF h:=λk=>if k=i then u else 0
def oJ (i:Nat) (f:Nat->KF h):Nat->KF h:=λn=>if i<=n then f (n-i)else 0
def co (l:List Nat):Nat->KF h:=λi=>aU h (l.getD i 0)
include h
theorem gZ {n:Nat} (hn:n<s):aU h n=(⟨n,hn⟩:El s):=El.ext (Nat.mod_eq_of_lt hn)
theorem jJ {a b:Nat} (d:a<s) (hb:b<s) (e:aU h a=aU h b):a=b:=by
 rw[gZ h d,gZ h hb]at e;exact congrArg El.val e
theorem AD (x:KF h):∃n,n<s/\aU h n=x:=by
 let y:El s:=x
 exact⟨y.val,y.lt,gZ h y.lt⟩
theorem bT:aU h 0=0:=gZ h (by have:=h.aR;omega)
theorem lr:aU h 1=1:=gZ h (by have:=h.aR;omega)
theorem nY {a b:Nat} (d:a<s) (hb:b<s):aU h (bQ s p a b)=aU h a+aU h b:=by
 rw[gZ h (kl h _ _ d hb),gZ h d,gZ h hb];rfl
theorem gh {a b:Nat} (d:a<s) (hb:b<s):aU h (aF s p a b)=aU h a* aU h b:=by
 rw[gZ h (bN h _ _),gZ h d,gZ h hb];rfl
theorem qg {a b:Nat} (d:a<s) (hb:b<s):aU h (cN s p a b)=aU h a-aU h b:=by
 rw[gZ h (og h d hb),gZ h d,gZ h hb];exact El.ext (zo h ⟨a,d⟩ ⟨b,hb⟩)
theorem Gc {a:Nat} (b:a<s) (d:a≠0):aU h a≠0:=by
 intro e;rw[<-bT h]at e;exact d (jJ h b (by have:=h.aR;omega) e)
theorem xP {a:Nat} (b:a<s) (d:a≠0):aU h a* aU h (dU s p a)=1:=by
 rw[<-gh h b (mz h),BV h b d,lr]
theorem fp (l:List Nat):cR l.length (co h l):=λi a=>by
 unfold co;rw[lk a,bT]
theorem qz (l:List Nat) (i:Nat):co h (ej l) i=co h l i:=by unfold co;rw[qN]
theorem sZ (n:Nat) (f:Nat->Nat) (i:Nat):co h ((List.range n).map f) i=if i<n then aU h (f i)else 0:=by
 unfold co;split
 ·rename_i a;rw[bw _ _ _ a]
 ·rename_i a;rw[lk oT,bT]
theorem gT {n:Nat} {f:Nat->Nat} (b:∀i,i<n->f i<s):ao s ((List.range n).map f):=λi=>by
 by_cases a:i<n
 ·rw[bw _ _ _ a];exact b i a
 ·rw[lk oT];have:=h.aR;show 0<s;omega
theorem Hw (l:List Nat) (i v j:Nat) (a:i<l.length):co h (l.set i v) j=if j=i then aU h v else co h l j:=by
 unfold co;by_cases e:j=i
 ·subst e;rw[if_pos rfl];congr 1;simp[List.getD,a]
 ·rw[if_neg e];congr 1;simp[List.getD,List.getElem?_set_ne (Ne.symm e)]
theorem CV {l:List Nat} (hl:ao s l) (a:dF l) (hn:1<=l.length):co h l (l.length-1)≠0:=by
 rcases a with rfl|a
 ·simp at hn
 ·exact Gc h (hl _) a
theorem oR {l:List Nat} (hl:ao s l) (b:dF l) {d:Nat} (e:cR d (co h l)):l.length<=d:=by
 rcases Nat.lt_or_ge d l.length with a|a
 ·exact absurd (e (l.length-1) oO) (CV h hl b oO)
 ·exact a
theorem zL {l:List Nat} (hl:ao s l) (b:dF l) {d:Nat} (e:cR (d+1) (co h l)) (f:co h l d≠0):l.length=d+1:=by
 have g:=oR h hl b e;rcases Nat.lt_or_ge d l.length with a|a
 ·omega
 ·exact absurd (fp h l d a) f
theorem DX (f:Nat->Nat) (a:∀k,f k<s) (n:Nat):aU h (lW s p f n)=dw (λk=>aU h (f k)) n:=by
 induction n with
 |zero=>exact bT h
 |succ n b=>
  show aU h (bQ s p (lW s p f n) (f n))=dw _ n+aU h (f n);rw[nY h (tQ h f a n) (a n),b]
theorem BN {a b:List Nat} (d:ao s a) (hb:ao s b) (n k:Nat):aU h (gd s p a b n k)=if k<=n then co h a k* co h b (n-k)else 0:=by
 unfold gd;split
 ·exact gh h (d _) (hb _)
 ·exact bT h
theorem tL {x:Nat} (d:x<s) (l:List Nat) (hl:∀y∈l,y<s):aU h (hornN s p x l)=bU (aU h x) (co h l) l.length:=by
 induction l with
 |nil=>exact bT h
 |cons a t e=>
  show aU h (bQ s p (aF s p (hornN s p x t) x) a)=_;rw[nY h (bN h _ _) (hl a oS),gh h (j9 h x t λy b=>hl y (by simp[b])) d,e λy b=>hl y (by simp[b])];rw[List.length_cons,cJ];show _=aU h a+aU h x* bU (aU h x) (co h t) t.length;rw[fe,cd]
theorem GY (i:Nat) (u:KF h) (b:Nat->KF h) (n:Nat):conv (mono h i u) b n=u* oJ h i b n:=by
 induction i generalizing n with
 |zero=>
  rw[show mono h 0 u=iM u from rfl,mJ];unfold oJ;rw[if_pos (Nat.zero_le _)];rfl
 |succ i a=>
  cases n with
  |zero=>
   rw[dA];unfold mono oJ;rw[if_neg oO,if_neg oO,bV,aW]
  |succ n=>
   rw[bZ];have e1:mono h (i+1) u 0=0:=by unfold mono;rw[if_neg oO]
   have e2:cC (mono h (i+1) u)=mono h i u:=by
    funext k;unfold cC mono;by_cases e:k=i
    ·rw[if_pos e,if_pos oO]
    ·rw[if_neg e,if_neg oO]
   rw[e1,e2,bV,cA,a];unfold oJ;by_cases e:i<=n
   ·rw[if_pos e,if_pos oO,show n+1-(i+1)=n-i from by omega]
   ·rw[if_neg e,if_neg oO]
theorem F2 {d:Nat} (f:d<s) {b r:List Nat} (hb:ao s b) (g:ao s r) (i j:Nat) (k:i+j<=r.length) (n:Nat):
 co h (subRow s p d b r i j) n=co h r n-(if i<=n/\n<i+j then aU h d* co h b (n-i)else 0):=by
 induction j with
 |zero=>rw[if_neg oO,fG];rfl
 |succ j a=>
  have a:=a oO;show co h ((subRow s p d b r i j).set (i+j) _) n=_;rw[Hw h _ _ _ _ (by rw[nF];omega)];by_cases e:n=i+j
  ·subst e;rw[if_pos rfl,if_pos oO,qg h (td h g i j _) (bN h _ _),gh h f (hb _)];rw[if_neg oO,fG]at a;rw[show aU h ((subRow s p d b r i j).getD (i+j) 0)=co h (subRow s p d b r i j) (i+j)from rfl,a,show i+j-i=j from by omega];rfl
  ·rw[if_neg e,a];by_cases e2:i<=n/\n<i+j
   ·rw[if_pos e2,if_pos oO]
   ·rw[if_neg e2,if_neg oO]
theorem vS {d:Nat} (e:d<s) {b r:List Nat} (hb:ao s b) (f:ao s r) (i:Nat) (j:i+b.length<=r.length) (n:Nat):
 co h (subRow s p d b r i b.length) n=co h r n-aU h d* oJ h i (co h b) n:=by
 rw[F2 h e hb f i _ j];congr 1;unfold oJ;by_cases a:i<=n
 ·by_cases g:n<i+b.length
  ·rw[if_pos ⟨a,g⟩,if_pos a]
  ·rw[if_neg oO,if_pos a,fp h b (n-i) oO,aW]
 ·rw[if_neg oO,if_neg a,aW]
theorem KL {a b:List Nat} (j:ao s a) (hb:ao s b) (q:1<=b.length) (d:Nat) (r:cG a b<=d) (k:Nat) (m:k<=cG a b) (n:Nat):
 co h a n=conv (co h (qL s p a b (cG a b) d k)) (co h b) n+co h (rL s p a b (cG a b) k) n:=by
 induction k with
 |zero=>
  show _=conv (co h (List.replicate d 0)) _ n+co h a n
  rw[fK,cA];intro i;unfold co;by_cases g:i<d
  ·rw[show(List.replicate d 0).getD i 0=0 from by simp[List.getD,g],bT]
  ·rw[show(List.replicate d 0).getD i 0=0 from by simp[List.getD,g],bT]
 |succ k f=>
  have f:=f oO;have o:cG a b=a.length-(b.length-1):=rfl;have hc:cL s p a b (cG a b) k<s:=bN h _ _;have hq:∀i,co h (qL s p a b (cG a b) d (k+1)) i=co h (qL s p a b (cG a b) d k) i+mono h (cG a b-1-k) (aU h (cL s p a b (cG a b) k)) i:=by
   intro i;show co h ((qL s p a b (cG a b) d k).set (cG a b-1-k) (cL s p a b (cG a b) k)) i=_;rw[Hw h _ _ _ _ (by rw[yJ];omega)];unfold mono;by_cases e:i=cG a b-1-k
   ·rw[if_pos e,if_pos e];have:co h (qL s p a b (cG a b) d k) i=0:=by
     unfold co;rw[K9 a b _ _ _ _ oO,bT]
    rw[this,cA]
   ·rw[if_neg e,if_neg e,aX]
  have l:co h (rL s p a b (cG a b) (k+1)) n=co h (rL s p a b (cG a b) k) n-aU h (cL s p a b (cG a b) k)* oJ h (cG a b-1-k) (co h b) n:=
   vS h hc hb (wC h j _ _) _ (by rw[tA];omega) n
  rw[eX (a:=co h (qL s p a b (cG a b) d (k+1))) (b:=co h b) (b':=co h b) (λi _=>hq i) (λ_ _=>rfl),iA,GY,l,f];generalize aU h (cL s p a b (cG a b) k)* oJ h (cG a b-1-k) (co h b) n=u;generalize co h (rL s p a b (cG a b) k) n=v;generalize conv (co h (qL s p a b (cG a b) d k)) (co h b) n=x
  rw[iQ,show x+u+(v+-u)=(x+v)+(u+-u)from by ac_rfl,rZ,aX]
theorem MA {a b:List Nat} (f:ao s a) (hb:ao s b) (l:1<=b.length) (i:b.getD (b.length-1) 0≠0) (k:Nat) (j:k<=cG a b):
 cR (b.length-1+cG a b-k) (co h (rL s p a b (cG a b) k)):=by
 induction k with
 |zero=>
  have g:cG a b=a.length-(b.length-1):=rfl;exact(fp h a).mono oO
 |succ k d=>
  have d:=d oO;intro n hn;have hc:cL s p a b (cG a b) k<s:=bN h _ _;have g:cG a b=a.length-(b.length-1):=rfl
  rw[show co h (rL s p a b (cG a b) (k+1)) n=co h (rL s p a b (cG a b) k) n-aU h (cL s p a b (cG a b) k)* oJ h (cG a b-1-k) (co h b) n from
   vS h hc hb (wC h f _ _) _ (by rw[tA];omega) n]
  by_cases e:n=cG a b-1-k+(b.length-1)
  ·unfold oJ;rw[if_pos oO,show n-(cG a b-1-k)=b.length-1 from by omega];have e2:aU h (cL s p a b (cG a b) k)=co h (rL s p a b (cG a b) k) n* aU h (dU s p (b.getD (b.length-1) 0)):=by
    show aU h (aF s p _ _)=_;rw[gh h (wC h f _ _ _) (mz h),e];rfl
   rw[e2,di,cd (aU h (dU s p _)),show co h b (b.length-1)=aU h (b.getD (b.length-1) 0)from rfl,xP h (hb _) i,gl,dL]
  ·rw[d n oO];unfold oJ;rw[if_pos oO,fp h b (n-(cG a b-1-k)) oO,aW,fG]
theorem xk {a b:List Nat} (d:ao s a):ao s (eQ s p a b):=jB (wC h d _ _)
theorem wX (a b:List Nat):dF (eQ s p a b):=kK _
theorem C9 {a b:List Nat} (d:ao s a) (hb:ao s b) (e:1<=b.length) (f:b.getD (b.length-1) 0≠0):cR (b.length-1) (co h (eQ s p a b)):=by
 intro i g;unfold eQ;rw[qz];exact MA h d hb e f _ (Nat.le_refl _) i oO
theorem xG {a b:List Nat} (d:ao s a) (hb:ao s b) (e:1<=b.length) (f:b.getD (b.length-1) 0≠0):(eQ s p a b).length<b.length:=by
 have:=oR h (xk h d) (wX h a b) (C9 h d hb e f);omega
theorem div_eq {a b:List Nat} (d:ao s a) (hb:ao s b) (e:1<=b.length) (n:Nat):co h a n=conv (co h (l3 s p a b)) (co h b) n+co h (eQ s p a b) n:=by
 have:=KL h d hb e (cG a b) (Nat.le_refl _) (cG a b) (Nat.le_refl _) n;rw[this];unfold l3 eQ;rw[qz]
end
end
section
open Go.RowKit
theorem Ci {b:List Nat} (a:dF b) (h:b≠[]):b.getD (b.length-1) 0≠0:=by
 rcases a with e|e
 ·exact absurd e h
 ·exact e
theorem Hu (C S P c bl:Nat) (a b:List Nat) (n m:Nat) (hn:n=a.length) (r:m=b.length) (A B:Option Addr) (d f:Nat) (w:World) (g:VF C S P) (u:ao S a) (v:ao S b) (o:a.length<=8193) (p:b.length<=4097) (s:dF b) (q:b≠[])
 (t:dp w S P c bl) (i:RD w A (zl a)) (hb:RD w B (zl b)):
 Calls Tryz.prog 156 #[fw C S c bl,.slice A n d,.slice B m f] w λe w'=>∃j k,e= .returned (.tuple #[j,k])/\aB w' j (zl (l3 S P a b))/\aB w' k (zl (eQ S P a b))/\Below w.heap.size w w':=by
 subst hn r;have hl:1<=b.length:=List.length_pos_iff.2 q;rcases Nat.lt_or_ge a.length b.length with l|l
 ·exact Cn C S P c bl a b A B d f w g o p hl oO i
 ·exact BY C S P c bl a b A B d f w g u v o p hl l (Ci s q) t i hb
theorem aB.n {w:World} {v:Value} {l:List Nat} (h:aB w v (zl l)):∃A n c,v= .slice A n c/\n=l.length/\n<=c/\c<=maxLen/\RD w A (zl l):=by
 obtain⟨A,c,rfl,a,b,d⟩:=h;exact⟨A,_,c,rfl,aw l,a,b,d⟩
theorem GO (C S P a bl r c:Nat) (l:List Nat) (n:Nat) (j:n=l.length) (A:Option Addr) (b:Nat) (w:World) (d:VF C S P) (hl:ao S l) (f:r<S) (hc:c<S) (hn:l.length<=8193)
 (g:dp w S P a bl) (i:RD w A (zl l)):
 Calls Tryz.prog 191 #[fw C S a bl,.slice A n b,.int .i64 r,.int .i64 c] w λe w'=>∃v,e= .returned v/\aB w' v (zl (mE S P l r c))/\Below w.heap.size w w':=by
 subst j;exact CK C S P a bl r c l A b w d hl f hc hn g i
theorem RD.lit (W:World) (xs:List Int) (t:TypeId) (b:Nat) (hb:b=W.heap.size):RD (W.alloc (.cells (xs.map (Value.int .i64)).toArray t)) (some ⟨b,0,none⟩) xs:=λ_=>by
 refine⟨_,rfl,by simp;omega,λj a=>?_⟩;have:=(ak.new W (xs.map (Value.int .i64)).toArray t b hb).2 j (by simpa using a);rw[add_plain,Nat.zero_add,this];simp[List.getD,a]
theorem Sl.lit (W:World) (xs:List Int) (t:TypeId) (b n:Nat) (hb:b=W.heap.size) (hn:n=xs.length) (h:n<=1000):(⟨some ⟨b,0,none⟩,n,n,xs⟩:Sl).R (W.alloc (.cells (xs.map (Value.int .i64)).toArray t)):=
 ⟨hn,by simp only;omega,RD.lit W xs t b hb,Nat.le_refl _,by simp only[maxLen];omega⟩
theorem aB.lit (W:World) (xs:List Int) (t:TypeId) (b n:Nat) (hb:b=W.heap.size) (hn:n=xs.length) (h:n<=1000):aB (W.alloc (.cells (xs.map (Value.int .i64)).toArray t)) (.slice (some ⟨b,0,none⟩) n n) xs:=
 (Sl.lit W xs t b n hb hn h).ints
def vi (w:World) (L:List Int×List Int×Int) (e:Ending) (w':World):Prop:=∃v u,e= .returned (.tuple #[v,u,.int .i64 L.2.2])/\aB w' v L.1/\aB w' u L.2.1/\Below w.heap.size w w'
theorem vi.mk {w w':World} {R:List Int×List Int×Int} {v u:Value} {L M:List Int} {err:Int} (h:R=(L,M,err)) (a:aB w' v L) (b:aB w' u M) (hb:Below w.heap.size w w'):vi w R (.returned (.tuple #[v,u,.int .i64 err])) w':=by
 subst h;exact⟨v,u,rfl,a,b,hb⟩
def kD (c s p:Int) (xs ys:List Int):List Int×List Int×Int:=
 if(oz c s p xs&&oz c s p ys)=true then(if ys=[]then([],[],12)else(zl (l3 s.toNat p.toNat (nl xs) (nl ys)),zl (eQ s.toNat p.toNat (nl xs) (nl ys)),0))else([],[],1)
theorem F9 {l:List Nat} (h:zl l=[]):l=[]:=by have:=congrArg nl h;rw[ru]at this;exact this
theorem CE (c s p:Int) (q r:Sl) (w:World) (D:p<=9223372036854775807) (hq:q.R w) (j:r.R w):
 Calls Tryz.prog 115 #[cD c s p,q.v,r.v] w (vi w (kD c s p q.xs r.xs)):=by
 obtain⟨A,n,k,xs⟩:=q;obtain⟨B,m,l,ys⟩:=r;have t:Below w.heap.size w (w.alloc (k8 c s p)):=(Below.refl _ _).alloc (Nat.le_refl _) _;have x:=Lib.hid (hq.below t);have y:=Lib.hid (j.below t);show Calls Tryz.prog 115 #[cD c s p,.slice A n k,.slice B m l] w (vi w (kD c s p xs ys));have Y:Hid (ak (w.alloc (k8 c s p)) w.heap.size (xW c s p)):=ak.new _ _ _ _ rfl;cases d:(oz c s p xs&&oz c s p ys)with
 |false=>
  have z:=Lib.hid d;have o:Hid (kD c s p xs ys=([],[],1)):=by show _=_;unfold kD;rw[d];rfl
  clear d hq j t;go_enter Tryz.func115,Tryz.ntmps115;go_wp2_with(go_at_call 154;refine(ya c s p A B n k m l xs ys _ _ 64 D oS x.out y.out).mono ?_;rintro e N ⟨rfl,f⟩;rw[z.out];have g:=Lib.hid f;clear f)
  go_ret3
  exact vi.mk o.out (aB.dO _) (aB.dO _) (cP g.out)
 |true=>
  have u:=d;rw[Bool.and_eq_true]at u;obtain⟨C,S,P,a,rfl,rfl,rfl,rfl,E,F,U,G⟩:=Dl u.1;obtain⟨C',Z,a7,b,e1,e2,e3,rfl,-,H,J,K⟩:=Dl u.2;obtain rfl:S=Z:=oO;have L:n=a.length:=hq.hn.trans (aw a);have v:m=b.length:=j.hn.trans (aw b);have z:=Lib.hid d;have V:=Lib.hid E;have am:=Lib.hid F;have ap:=Lib.hid H;have av:=Lib.hid J;have a0:=Lib.hid L;have a1:=Lib.hid v;have a2:=Lib.hid G;have a3:=Lib.hid K;by_cases i:b=[]
  ·have o:Hid (kD C S P (zl a) (zl b)=([],[],12)):=by show _=_;unfold kD;rw[if_pos d,i];rfl
   have a4:m=0:=by rw[v,i];rfl
   subst a4;clear d u e1 e2 e3 E F H U J G K L v i hq j t;go_enter Tryz.func115,Tryz.ntmps115;go_wp2_with(go_at_call 154;refine(ya C S P A B n k 0 l _ _ _ _ 64 D oS x.out y.out).mono ?_;rintro e N ⟨rfl,f⟩;rw[z.out];have g:=Lib.hid f;clear f)
   go_ret3
   exact vi.mk o.out (aB.dO _) (aB.dO _) (cP g.out)
  ·have o:Hid (kD C S P (zl a) (zl b)=(zl (l3 S P a b),zl (eQ S P a b),0)):=by
    show _=_;unfold kD;rw[if_pos d,if_neg (λe=>i (F9 e)),ru,ru];rfl
   have bq:0<m:=by rw[v];exact List.length_pos_iff.2 i
   have a8:((m:Int)==0)=false:=by rw[beq_eq_false_iff_ne];omega
   have a5:=Lib.hid i;clear d u e1 e2 e3 E F H U J G K L v i hq j t;go_enter Tryz.func115,Tryz.ntmps115
   go_wp2_with(first
    |(go_at_call 154;refine(ya C S P A B n k m l _ _ _ _ 64 D oS x.out y.out).mono ?_;rintro e N ⟨rfl,f⟩;rw[z.out];have g:=Lib.hid f;clear f;obtain⟨a9,bb,bd⟩:=rF (Y.out.below g.out))
    |(go_at_call 155;refine(AK C S P _ V.out).mono ?_;rintro e be ⟨ab,bl,rfl,O,W⟩;have ac:=Lib.hid O;have M:=Lib.hid W;clear O W)
    |(go_at_call 156;refine(Hu C S P ab bl a b n m a0.out a1.out A B k l _ V.out am.out ap.out (by have:=a2.out;omega) a3.out av.out a5.out ac.out ((x.out.below g.out).below M.out).rd ((y.out.below g.out).below M.out).rd).mono ?_;rintro e bf ⟨bi,bo,rfl,Q,T,X⟩;have ad:=Lib.hid Q;have al:=Lib.hid T;have a6:=Lib.hid X;clear Q T X))
   go_ret3
   exact vi.mk o.out ad.out al.out (cP (ae (ae g.out M.out) a6.out))
def fromL (s p:Nat) (a:List Nat):Nat->List Nat
 |0=>[1]
 |k+1=>mE s p (fromL s p a k) (a.getD k 0) 0
theorem ou (s p:Nat) (b:List Nat) (k:Nat):(fromL s p b k).length=k+1:=by
 induction k with
 |zero=>rfl
 |succ k a=>unfold fromL mE;rw[pt,a]
theorem oF {c s p:Nat} (h:VF c s p) {a:List Nat} (b:ao s a) (k:Nat):ao s (fromL s p a k):=by
 have e:=h.aR
 induction k with
 |zero=>
  intro i
  match i with
  |0=>show 1<s;omega
  |i+1=>show([1]:List Nat).getD (i+1) 0<s;simp[List.getD];omega
 |succ k d=>exact Km h d (b _) oO _
def iy (c s p:Int) (xs:List Int):List Int×Int:=
 if(bL c s p&&gA s xs)=true then(if 4096<xs.length then([],4)else(zl (fromL s.toNat p.toNat (nl xs) xs.length),0))else([],1)
theorem xR (c s p:Int) (q:Sl) (w:World) (z:p<=9223372036854775807) (hq:q.R w):
 Calls Tryz.prog 153 #[cD c s p,q.v] w (kS w (iy c s p q.xs)):=by
 obtain⟨A,n,H,xs⟩:=q;have x:Below w.heap.size w (w.alloc (k8 c s p)):=(Below.refl _ _).alloc (Nat.le_refl _) _;have J:=Lib.hid (hq.below x);have O:Hid (ak (w.alloc (k8 c s p)) w.heap.size (xW c s p)):=ak.new _ _ _ _ rfl;have HC:Hid (∀b,Below (w.alloc (k8 c s p)).heap.size (w.alloc (k8 c s p)) b->b.cell? ⟨w.heap.size,0,none⟩=some (.int .i64 c)/\b.cell? ⟨w.heap.size,1,none⟩=some (.int .i64 s)/\b.cell? ⟨w.heap.size,2,none⟩=some (.int .i64 p)):=λb hb=>rF (O.out.below hb);have B:Hid (∀b,af (w.alloc (k8 c s p)) b->Calls Tryz.prog 190 #[cD c s p,.slice A n H] b λe w'=>e= .returned (.bool (gA s xs))/\Below b.heap.size b w'):=λb hb=>nP c s p xs n hq.hn A H b hq.hm (J.out.below hb).rd;show Calls Tryz.prog 153 #[cD c s p,.slice A n H] w (kS w (iy c s p xs));cases f:bL c s p with
 |false=>
  have t:=Lib.hid f;have r:Hid (iy c s p xs=([],1)):=by show _=_;unfold iy;rw[f];rfl
  clear f hq x;go_enter Tryz.func153,Tryz.ntmps153;go_wp2_with(go_at_call 154;refine(uh c s p _ z).mono ?_;rintro e b ⟨rfl,g⟩;rw[t.out];have d:=Lib.hid g;clear g)
  go_ret2
  exact kS.mk r.out (aB.dO _) (cP d.out)
 |true=>
  have t:=Lib.hid f;cases i:gA s xs with
  |false=>
   have u:=Lib.hid i;have r:Hid (iy c s p xs=([],1)):=by show _=_;unfold iy;rw[f,i];rfl
   clear i f hq x;go_enter Tryz.func153,Tryz.ntmps153
   go_wp2_with(first
    |(go_at_call 154;refine(uh c s p _ z).mono ?_;rintro e b ⟨rfl,g⟩;rw[t.out];have d:=Lib.hid g;clear g;obtain⟨D,E,F⟩:=HC.out _ d.out)
    |(go_at_call 190;refine(B.out _ d.out).mono ?_;rintro e Q ⟨rfl,m⟩;rw[u.out];have o:=Lib.hid m;clear m))
   go_ret2
   exact kS.mk r.out (aB.dO _) (cP (ae d.out o.out))
  |true=>
   have u:=Lib.hid i;have y:n=xs.length:=hq.hn;by_cases N:4096<n
   ·have r:Hid (iy c s p xs=([],4)):=by show _=_;unfold iy;rw[f,i,<-y];rw[if_pos N];rfl
    have ch:n<=9223372036854775807:=hq.hm;clear i f hq x y;go_enter Tryz.func153,Tryz.ntmps153
    go_wp2_with(first
     |(go_at_call 154;refine(uh c s p _ z).mono ?_;rintro e b ⟨rfl,g⟩;rw[t.out];have d:=Lib.hid g;clear g;obtain⟨D,E,F⟩:=HC.out _ d.out)
     |(go_at_call 190;refine(B.out _ d.out).mono ?_;rintro e Q ⟨rfl,m⟩;rw[u.out];have o:=Lib.hid m;clear m D E F))
    go_ret2
    exact kS.mk r.out (aB.dO _) (cP (ae d.out o.out))
   ·obtain⟨C,S,P,rfl,rfl,rfl,L⟩:=qy f;obtain⟨a,rfl,W⟩:=DO (by have:=L.aR;omega) i;have X:n=a.length:=y.trans (aw a);have r:Hid (iy C S P (zl a)=(zl (fromL S P a n),0)):=by show _=_;unfold iy;rw[f,i,<-y];rw[if_neg N,ru];rfl
    have ce:n<=4096:=oO;have av:decide ((4096:Int)<(n:Int))=false:=by simp;omega
    have G:=Lib.hid L;have Y:=Lib.hid W;have Z:=Lib.hid X;clear i f hq x y L W X N;go_enter Tryz.func153,Tryz.ntmps153
    go_wp2_with(first
     |(go_at_call 154;refine(uh C S P _ z).mono ?_;rintro e b ⟨rfl,g⟩;rw[t.out];have d:=Lib.hid g;clear g;obtain⟨D,E,F⟩:=HC.out _ d.out)
     |(go_at_call 190;refine(B.out _ d.out).mono ?_;rintro e Q ⟨rfl,m⟩;rw[u.out];have o:=Lib.hid (ae d.out m);clear m D E F;obtain⟨a0,a1,a2⟩:=HC.out _ o.out)
     |(go_at_call 155;refine(AK C S P _ G.out).mono ?_;rintro e j ⟨l,bl,rfl,T,ab⟩;have U:=Lib.hid T;have M:=Lib.hid ab;clear T ab a0 a1 a2))
    clear av;have a9:Hid (ak ((j.alloc (lF C S l bl)).alloc (.cells #[.int .i64 1] 3)) j.heap.size (gW C S l bl)):=(ak.new _ _ _ _ rfl).alloc _;have bb:Hid (dp ((j.alloc (lF C S l bl)).alloc (.cells #[.int .i64 1] 3)) S P l bl):=(U.out.alloc _).alloc _;have bd:Hid (RD ((j.alloc (lF C S l bl)).alloc (.cells #[.int .i64 1] 3)) A (zl a)):=(((J.out.below o.out).below M.out).rd.alloc _).alloc _;have be:Hid (aB ((j.alloc (lF C S l bl)).alloc (.cells #[.int .i64 1] 3)) (.slice (some ⟨j.heap.size+1,0,none⟩) 1 1) (zl (fromL S P a 0))):=aB.lit _ [1] 3 _ 1 oS rfl oO;have bf:Hid (Below w.heap.size w ((j.alloc (lF C S l bl)).alloc (.cells #[.int .i64 1] 3))):=ah (ah (cP (ae o.out M.out)) _) _;clear d o M U J O HC B t u;generalize(j.alloc (lF C S l bl)).alloc (.cells #[.int .i64 1] 3)=a3 at*;generalize j.heap.size=b4 at*;go_loopw [7,27] (λa4 K wr=>∃k:Nat,k<=n/\K= .int .i64 k/\Hid (af a3 wr)/\Hid (aB wr a4 (zl (fromL S P a k)))) (λ_ K _=>n-(intOf K).toNat)
    case atStart=>exact⟨0,Nat.zero_le _,rfl,Below.refl _ _,be⟩
    case round=>
     obtain⟨k,b5,rfl,v,V⟩:=hrel;by_cases bi:k<n
     ·obtain⟨a5,n2,a6,rfl,ac,-,-,ap⟩:=V.out.n;obtain⟨a7,rfl,b2,ad⟩:=bd.out (by rw[aw,<-Z.out];omega);have i:wr.cell? (a7.add k)=some (.int .i64 ((a.getD k 0:Nat):Int)):=by
       rw[v.out.cell (by rw[aL];exact b2),ad k (by rw[aw,<-Z.out];exact bi),dh]
      have bo:Hid (a.getD k 0<S):=Y.out k;have bq:Hid (fromL S P a (k+1)=mE S P (fromL S P a k) (a.getD k 0) 0):=rfl;generalize a.getD k 0=a8 at*;obtain⟨b6,b7,b8,b9⟩:=dY (a9.out.below v.out);have bs:=Lib.hid ac;have b3:=Lib.hid ap;have bt:Hid ((fromL S P a k).length<=8193):=by show _<=_;rw[ou];omega
      have bv:Hid (ao S (fromL S P a k)):=oF G.out Y.out k;have bx:Hid (0<S):=by have:=G.out.aR;show _<_;omega
      clear ac ap ad;go_wp2_with(go_at_call 191;refine(GO C S P l bl a8 0 (fromL S P a k) n2 bs.out a5 a6 _ G.out bv.out bo.out bx.out bt.out (bb.out.below v.out) b3.out).mono ?_;rintro e ca ⟨cb,rfl,al,am⟩;have bz:=Lib.hid al;have b1:=Lib.hid am;clear al am)
      exact⟨⟨k+1,by omega,by go_num,ae v.out b1.out,by rw[bq.out];exact bz.out⟩,by simp[intOf];omega⟩
     ·obtain rfl:k=n:=oO;go_wp2;go_ret2
      exact kS.mk r.out V.out (ae bf.out v.out)
abbrev ee (C S a bl:Nat):Obj:= .cells #[.int .i64 C,.int .i64 S,.slice (some ⟨a,0,none⟩) (S-1) (S-1),.slice (some ⟨bl,0,none⟩) S S] 152
theorem k6 (C S P g bl x y:Nat) (w:World) (a:VF C S P) (i:x<S) (j:y<S) (k:dp w S P g bl):
 Calls Tryz.prog 204 #[fw C S g bl,.int .i64 x,.int .i64 y] w λe w'=>e= .returned (.int .i64 ((aF S P x y:Nat):Int))/\Below w.heap.size w w':=by
 have o:Hid (Below w.heap.size w (w.alloc (ee C S g bl))):=(Below.refl _ _).alloc (Nat.le_refl _) _;by_cases d:x=0
 ·subst d;have n:=Lib.hid (pD a j);clear a k;go_enter Tryz.func204,Tryz.ntmps204;go_wp2;go_ret;exact⟨dg (by rw[n.out];rfl),o.out⟩
 by_cases f:y=0
 ·subst f;have n:=Lib.hid (pr a i);clear a k;go_enter Tryz.func204,Tryz.ntmps204;go_wp2;go_ret;exact⟨dg (by rw[n.out];rfl),o.out⟩
 have s:=a.le;have B:=a.aR;have t:=(ep a i d).1;have u:=(ep a j f).1;have l:=k.alloc (ee C S g bl);have c1:=l.2.2.2 x i d;have v:=l.2.2.2 y j f;have p:(eB S P x+eB S P y)%(S-1)<S-1:=Nat.mod_lt _ oO;have q:=l.2.2.1 _ p;rw[Dn a i j d f]at q;generalize aF S P x y=r at*;generalize eB S P x=b at*;generalize eB S P y=c at*;have e1:((b:Int)+c).tmod ((S:Int)-1)=(((b+c)%(S-1):Nat):Int):=by
  rw[show(b:Int)+c=((b+c:Nat):Int)from by omega,show(S:Int)-1=((S-1:Nat):Int)from by omega];exact(Int.ofNat_tmod _ _).symm
 generalize(b+c)%(S-1)=m at*;have e2:IntKind.i64.wrap ((b:Int)+c)=(b:Int)+c:=aG _ oO oO;have z:((x:Int)==0)=false:=by rw[beq_eq_false_iff_ne];omega
 have A:((y:Int)==0)=false:=by rw[beq_eq_false_iff_ne];omega
 clear l k a d f;go_enter Tryz.func204,Tryz.ntmps204;go_wp2;go_quiet (fail)
 go_wp2;go_ret;exact⟨rfl,dk o.out _⟩
theorem oX (C S P g bl x y:Nat) (w:World) (c:VF C S P) (i:x<S) (j:y<S) (d:y≠0) (l:dp w S P g bl):
 Calls Tryz.prog 206 #[fw C S g bl,.int .i64 x,.int .i64 y] w λe w'=>e= .returned (.int .i64 ((aF S P x (dU S P y):Nat):Int))/\Below w.heap.size w w':=by
 have n:Hid (Below w.heap.size w (w.alloc (ee C S g bl))):=(Below.refl _ _).alloc (Nat.le_refl _) _;by_cases f:x=0
 ·subst f;have o:=Lib.hid (pD c (mz c (x:=y)));clear c l j i d;go_enter Tryz.func206,Tryz.ntmps206;go_wp2;go_ret;exact⟨dg (by rw[o.out];rfl),n.out⟩
 have s:=c.le;have A:=c.aR;have t:=(ep c i f).1;have u:=(ep c j d).1;have k:=l.alloc (ee C S g bl);have c1:=k.2.2.2 x i f;have v:=k.2.2.2 y j d;have p:(eB S P x+(S-1)-eB S P y)%(S-1)<S-1:=Nat.mod_lt _ oO;have q:=k.2.2.1 _ p;rw[Dx c i j f d]at q;generalize aF S P x (dU S P y)=r at*;generalize eB S P x=a at*;generalize eB S P y=b at*;have e1:((a:Int)-b+S-1).tmod ((S:Int)-1)=(((a+(S-1)-b)%(S-1):Nat):Int):=by
  rw[show(a:Int)-b+S-1=((a+(S-1)-b:Nat):Int)from by omega,show(S:Int)-1=((S-1:Nat):Int)from by omega];exact(Int.ofNat_tmod _ _).symm
 generalize(a+(S-1)-b)%(S-1)=m at*;have e2:IntKind.i64.wrap ((a:Int)-b)=(a:Int)-b:=aG _ oO oO;have e3:IntKind.i64.wrap ((a:Int)-b+S)=(a:Int)-b+S:=aG _ oO oO;have e4:IntKind.i64.wrap ((a:Int)-b+S-1)=(a:Int)-b+S-1:=aG _ oO oO;have z:((x:Int)==0)=false:=by rw[beq_eq_false_iff_ne];omega
 clear k l c f d;go_enter Tryz.func206,Tryz.ntmps206;go_wp2;go_quiet (fail)
 go_wp2;go_ret;exact⟨rfl,dk n.out _⟩
theorem o5 (C S P c bl x y:Nat) (w:World) (a:VF C S P) (i:x<S) (j:y<S):
 Calls Tryz.prog 205 #[fw C S c bl,.int .i64 x,.int .i64 y] w λe w'=>e= .returned (.int .i64 ((bQ S P x y:Nat):Int))/\Below w.heap.size w w':=by
 have f:Hid (Below w.heap.size w (w.alloc (ee C S c bl))):=(Below.refl _ _).alloc (Nat.le_refl _) _;have k:=a.le;rcases a.ED with⟨rfl,d⟩|⟨g,rfl⟩
 ·have b:Hid (bits BinOp.xor IntKind.i64 (x:Int) (y:Int)=((bQ S P x y:Nat):Int)):=by
   show _=_;rw[iT _ _ oO oO];unfold bQ;rw[if_neg d]
  clear a d;go_enter Tryz.func205,Tryz.ntmps205;go_wp2;go_ret;exact⟨dg b.out,f.out⟩
 ·have m:=a.aR;have b:Hid (((x:Int)+y).tmod S=((bQ S 0 x y:Nat):Int)):=by
   show _=_;unfold bQ;rw[if_pos rfl,show(x:Int)+y=((x+y:Nat):Int)from by omega];exact(Int.ofNat_tmod _ _).symm
  have l:((C:Int)==2)=false:=by rw[beq_eq_false_iff_ne];omega
  clear a g;go_enter Tryz.func205,Tryz.ntmps205;go_wp2;go_ret;exact⟨dg b.out,f.out⟩
theorem JG (C S P c bl x y:Nat) (w:World) (a:VF C S P) (i:x<S) (j:y<S):
 Calls Tryz.prog 222 #[fw C S c bl,.int .i64 x,.int .i64 y] w λe w'=>e= .returned (.int .i64 ((cN S P x y:Nat):Int))/\Below w.heap.size w w':=by
 have f:Hid (Below w.heap.size w (w.alloc (ee C S c bl))):=(Below.refl _ _).alloc (Nat.le_refl _) _;have k:=a.le;rcases a.ED with⟨rfl,d⟩|⟨g,rfl⟩
 ·have b:Hid (bits BinOp.xor IntKind.i64 (x:Int) (y:Int)=((cN S P x y:Nat):Int)):=by
   show _=_;rw[iT _ _ oO oO];unfold cN;rw[if_neg d]
  clear a d;go_enter Tryz.func222,Tryz.ntmps222;go_wp2;go_ret;exact⟨dg b.out,f.out⟩
 ·have m:=a.aR;have b:Hid (((x:Int)-y+S)%S=((cN S 0 x y:Nat):Int)):=by
   show _=_;unfold cN;rw[if_pos rfl,show(x:Int)-y+S=((x+S-y:Nat):Int)from by omega];exact(Int.natCast_emod _ _).symm
  have l:((C:Int)==2)=false:=by rw[beq_eq_false_iff_ne];omega
  clear a g;go_enter Tryz.func222,Tryz.ntmps222;go_wp2;go_ret;exact⟨dg b.out,f.out⟩
theorem Ek (C S P a bl x:Nat) (l:List Nat) (A:Option Addr) (E:Nat) (w:World) (g:VF C S P) (o:x<S) (hl:ao S l) (hn:l.length<=4097) (p:dp w S P a bl) (q:RD w A (zl l)):
 Calls Tryz.prog 202 #[fw C S a bl,.slice A l.length E,.int .i64 x] w λe w'=>e= .returned (.int .i64 ((hornN S P x l:Nat):Int))/\Below w.heap.size w w':=by
 have d:=Lib.hid g;have r:=Lib.hid hl;have F:=Lib.hid o;have s:=Lib.hid (q.alloc (ee C S a bl));have G:=Lib.hid (p.alloc (ee C S a bl));have H:Hid (ak (w.alloc (ee C S a bl)) w.heap.size (gW C S a bl)):=ak.new _ _ _ _ rfl;have f:Hid (l.length=l.length):=rfl
 revert f
 generalize B:l.length=n at*;intro f;have c:=Lib.hid B;clear B g hl o q p f;go_enter Tryz.func202,Tryz.ntmps202;go_wp2;go_loopw [7,8] (λv i wr=>∃(k:Nat) (j:Int),k<=n/\i= .int .i64 j/\Hid (j=(k:Int)-1)/\v= .int .i64 ((hornN S P x (l.drop k):Nat):Int)/\Hid (Below (w.alloc (ee C S a bl)).heap.size (w.alloc (ee C S a bl)) wr)) (λ_ i _=>(intOf i+1).toNat)
 case atStart=>exact⟨n,_,Nat.le_refl _,rfl,rfl,by rw[<-c.out,List.drop_length];rfl,Below.refl _ _⟩
 case round=>
  obtain⟨k,j,V,rfl,t,rfl,hb⟩:=hrel;by_cases N:k=0
  ·subst N;have Y:j<0:=by have:=t.out;omega
   go_wp2;go_ret;exact⟨rfl,cP hb.out⟩
  ·obtain⟨m,rfl⟩:∃m,k=m+1:=⟨k-1,by omega⟩;obtain rfl:j=(m:Int):=by have:=t.out;omega
   obtain⟨J,rfl,-,O⟩:=s.out (by rw[aw,c.out];omega);have z:Hid (∀W,Below (w.alloc (ee C S a bl)).heap.size (w.alloc (ee C S a bl)) W->(W.cell? ⟨w.heap.size,0,none⟩=some (.int .i64 C)/\W.cell? ⟨w.heap.size,1,none⟩=some (.int .i64 S)/\W.cell? ⟨w.heap.size,2,none⟩=some (.slice (some ⟨a,0,none⟩) (S-1) (S-1))/\W.cell? ⟨w.heap.size,3,none⟩=some (.slice (some ⟨bl,0,none⟩) S S))/\W.cell? (J.add m)=some (.int .i64 ((l.getD m 0:Nat):Int))):=by
    show∀W,_;intro W b;refine⟨dY (H.out.below b),?_⟩;obtain⟨Z,e,_,hc⟩:=s.out.below b (by rw[aw,c.out];omega);injection e with e;subst e;rw[hc m (by rw[aw,c.out];omega),dh]
   have Q:=Lib.hid (EZ S P x l m (by rw[c.out];omega));have T:Hid (hornN S P x (l.drop (m+1))<S):=j9 d.out x _ (λy K=>fW r.out y (List.mem_of_mem_drop K));have U:Hid (l.getD m 0<S):=r.out m;generalize L:hornN S P x (l.drop (m+1))=u at*;have ab:m<n:=oO;clear L O;go_wp2;refine cf (S:=af (w.alloc (ee C S a bl))) 10 oK oK (aj hb.out) ?_;simp only[List.take_succ_cons,List.take_zero,List.drop_succ_cons,List.drop_zero]
   repeat refine kO z.out ?_
   refine kX (λW b=>k6 C S P a bl u x W d.out T.out F.out (G.out.below b)) ?_
   repeat refine kO z.out ?_
   refine kX (λW b=>o5 C S P a bl (aF S P u x) (l.getD m 0) W d.out (bN d.out _ _) U.out) ?_;refine dj ?_;intro X D;have M:=Lib.hid D;clear D;go_wp2;exact⟨⟨m,_,by omega,rfl,rfl,by rw[Q.out],M⟩,by simp[intOf]⟩
end
end Go.Proofs.YtmnlkganmgcpbaaGreatDoor
