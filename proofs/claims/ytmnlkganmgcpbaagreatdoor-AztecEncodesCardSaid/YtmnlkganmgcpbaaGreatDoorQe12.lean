import Derived.Test.YtmnlkganmgcpbaaGreatDoorQe11
import Derived.Deep.OwnRows
set_option maxRecDepth 100000
set_option maxHeartbeats 4000000
set_option linter.unusedVariables false
set_option linter.unusedSectionVars false
set_option linter.unusedSimpArgs false
namespace Go.Proofs.YtmnlkganmgcpbaaGreatDoor
section
open Go.RowKit
def hornN (s p x:Nat):List Nat->Nat
 |[]=>0
 |c::a=>bW s p (aM s p (hornN s p x a) x) c
theorem zK {c s p:Nat} (h:VF c s p) (x:Nat) (l:List Nat) (hl:∀y∈l,y<s):hornN s p x l<s:=by
 induction l with
 |nil=>have:=h.aT;unfold hornN;omega
 |cons a b d=>exact jY h _ _ (cd h _ _) (hl a oS)
theorem wJ {s:Nat} {l:List Nat} (h:aA s l):∀y∈l,y<s:=by
 intro y a;obtain⟨i,b,rfl⟩:=List.getElem_of_mem a;have:=h i;simpa[List.getD,b]using this
abbrev mi (C S a bl:Nat):List Value:=[.int .i64 C,.int .i64 S,.slice (some ⟨a,0,none⟩) (S-1) (S-1),.slice (some ⟨bl,0,none⟩) S S]
theorem kJ {W:World} {b C S a bl:Nat} (h:ai W b (mi C S a bl)):W.cell? ⟨b,0,none⟩=some (.int .i64 C)/\W.cell? ⟨b,1,none⟩=some (.int .i64 S)/\W.cell? ⟨b,2,none⟩=some (.slice (some ⟨a,0,none⟩) (S-1) (S-1))/\W.cell? ⟨b,3,none⟩=some (.slice (some ⟨bl,0,none⟩) S S):=
 ⟨h.2 0 oS,h.2 1 oS,h.2 2 oS,h.2 3 oS⟩
def dI (l:List Nat):Array Value:=(l.map λn:Nat=>Value.int .i64 n).toArray
theorem eS (l:List Nat) (i:Nat):(dI l)[i]?=(l[i]?).map λn:Nat=>Value.int .i64 n:=by
 unfold dI;simp
theorem kS (l:List Nat) (i v:Nat):(dI l).setIfInBounds i (.int .i64 v)=dI (l.set i v):=by
 unfold dI;apply Array.ext';simp[List.map_set]
theorem iQ (n:Nat):madeCells #[Value.int .i64 0] n=dI (List.replicate n 0):=by
 apply Array.ext';rw[toList_madeCells_one];unfold dI;simp
abbrev oC (C S P:Nat):Obj:= .cells #[.int .i64 C,.int .i64 S,.int .i64 P] 89
abbrev y9:Obj:= .cells #[.int .i64 0,.int .i64 0,.slice none 0 0,.slice none 0 0] 200
abbrev LK (C S a b bl:Nat):Obj:= .cells #[.int .i64 C,.int .i64 S,.slice (some ⟨b,0,none⟩) a a,.slice (some ⟨bl,0,none⟩) S S] 200
structure dg (w wr:World) (C S P T n be bl a:Nat):Prop where
 B:Below w.heap.size w wr
 he:w.heap.size+1<be
 hl:w.heap.size+1<bl
 hs:w.heap.size+1<a
 n1:be≠bl
 n2:be≠a
 n3:bl≠a
 F:wr.heap[w.heap.size]?=some (oC C S P)
 R:wr.heap[w.heap.size+1]?=some y9
 E:wr.heap[be]?=some (.cells (dI (iy S P n)) 3)
 L:wr.heap[bl]?=some (.cells (dI (jR S P n)) 3)
 A:wr.heap[a]?=some (LK C S T be bl)
theorem dg.below {w wr w2:World} {C S P a n b bl c:Nat} (h:dg w wr C S P a n b bl c) (hb:Below wr.heap.size wr w2):dg w w2 C S P a n b bl c:=
 ⟨ab h.B hb,h.he,h.hl,h.hs,h.n1,h.n2,h.n3,(hb.block _ (aw h.F)).trans h.F,(hb.block _ (aw h.R)).trans h.R,(hb.block _ (aw h.E)).trans h.E,(hb.block _ (aw h.L)).trans h.L,(hb.block _ (aw h.A)).trans h.A⟩
theorem dg.store {w wr:World} {C S P e n d bl j:Nat} (l:VF C S P) (o:e=S-1) (h:dg w wr C S P e n d bl j) (hn:n<e):
 dg w ((wr.setCell ⟨d,n,none⟩ (.int .i64 ((fpowN S P (ay S P) n:Nat):Int))).setCell ⟨bl,fpowN S P (ay S P) n,none⟩ (.int .i64 (n:Int))) C S P e (n+1) d bl j:=by
 have m:Below w.heap.size w (wr.setCell ⟨d,n,none⟩ (.int .i64 ((fpowN S P (ay S P) n:Nat):Int))):=h.B.setCell (by have:=h.he;simp;omega) _;have f:∀(k:Nat) (v:Value),k≠d->(wr.setCell ⟨d,n,none⟩ v).heap[k]?=wr.heap[k]?:=λk v i=>heap_setCell_other wr ⟨d,n,none⟩ k v i;have g:∀(W:World) (x k:Nat) (v:Value),k≠bl->(W.setCell ⟨bl,x,none⟩ v).heap[k]?=W.heap[k]?:=λW x k v i=>heap_setCell_other W ⟨bl,x,none⟩ k v i;have e1:=heap_setCell_same wr d n _ 3 (.int .i64 ((fpowN S P (ay S P) n:Nat):Int)) h.E;rw[kS,wv l (n:=n) oO]at e1;have e2:=heap_setCell_same (wr.setCell ⟨d,n,none⟩ (.int .i64 ((fpowN S P (ay S P) n:Nat):Int))) bl (fpowN S P (ay S P) n) _ 3 (.int .i64 (n:Int)) ((f bl _ (Ne.symm h.n1)).trans h.L);rw[kS,z7 l oO]at e2;have a:=h.he;have b:=h.hl;have c:=h.hs
 exact⟨m.setCell oT _,h.he,h.hl,h.hs,h.n1,h.n2,h.n3,
  ((g _ _ _ _ oO).trans (f _ _ oO)).trans h.F,((g _ _ _ _ oO).trans (f _ _ oO)).trans h.R,
  (g _ _ _ _ h.n1).trans e1,e2,((g _ _ _ _ (Ne.symm h.n3)).trans (f _ _ (Ne.symm h.n2))).trans h.A⟩
theorem dg.oZ {w wr:World} {C S P a c bl f:Nat} (b:VF C S P) (g:a=S-1) (h:dg w wr C S P a a c bl f):eY wr S P c bl:=by
 subst g;refine⟨aw h.E,aw h.L,λi d=>?_,λx e j=>?_⟩
 ·rw[cell_of_row _ _ _ _ _ _ h.E,eS];have:=yi b d;rw[<-uB b]at this;rw[<-this];unfold iy;simp[List.getD,d]
 ·rw[cell_of_row _ _ _ _ _ _ h.L,eS];have:=xU b e j;rw[<-this];unfold jR;simp[List.getD,e]
def bV (w:World) (b:Nat) (l:List Nat):Prop:=b<w.heap.size/\∀i,i<l.length->w.cell? ⟨b,i,none⟩=some (.int .i64 ((l.getD i 0:Nat):Int))/\w.frozen? ⟨b,i,none⟩=false
theorem bV.below {W a:World} {b:Nat} {l:List Nat} (h:bV W b l) (hb:Below W.heap.size W a):bV a b l:=
 ⟨Nat.lt_of_lt_of_le h.1 hb.size,λi c=>⟨(hb.cell h.1).trans (h.2 i c).1,(hb.frozen h.1).trans (h.2 i c).2⟩⟩
theorem bV.set {W:World} {b:Nat} {l:List Nat} (h:bV W b l) (i v:Nat):bV (W.setCell ⟨b,i,none⟩ (.int .i64 (v:Int))) b (l.set i v):=by
 refine⟨by simpa using h.1,λj c=>?_⟩;have a:j<l.length:=by simpa using c
 refine⟨?_,by rw[World.frozen?_setCell];exact(h.2 j a).2⟩;by_cases e:i=j
 ·subst e;rw[World.cell?_setCell_same W _ _ (h.2 i a).1];simp[List.getD,a]
 ·rw[World.cell?_setCell_other W _ _ _ (λe2=>e (by injection e2))];rw[(h.2 j a).1];simp[List.getD,List.getElem?_set_ne e]
theorem bV.other {W:World} {b:Nat} {l:List Nat} (h:bV W b l) (p:Addr) (u:Value) (c:b≠p.block):bV (W.setCell p u) b l:=by
 refine⟨by simpa using h.1,λj a=>⟨?_,by rw[World.frozen?_setCell];exact(h.2 j a).2⟩⟩;rw[World.cell?_setCell_other W _ _ _ (λe=>c (by rw[e]))];exact(h.2 j a).1
theorem bV.new (W:World) (b:Nat) (l:List Nat) (a:TypeId) (hb:b=W.heap.size):bV (W.alloc (.cells (dI l) a)) b l:=by
 have c:(W.alloc (.cells (dI l) a)).heap[b]?=some (.cells (dI l) a):=by
  rw[hb];exact heap_alloc_new _ _
 refine⟨aw c,λi d=>⟨?_,frozen_of_row _ _ _ _ _ c⟩⟩;rw[cell_of_row _ _ _ _ _ _ c,eS];simp[List.getD,d]
theorem bV.made (W:World) (b n:Nat) (a:TypeId) (hb:b=W.heap.size):bV (W.alloc (.cells (madeCells #[Value.int .i64 0] n) a)) b (List.replicate n 0):=by
 have c:(W.alloc (.cells (madeCells #[Value.int .i64 0] n) a)).heap[b]?=some (.cells (dI (List.replicate n 0)) a):=by
  rw[hb,<-iQ];exact heap_alloc_new _ _
 refine⟨aw c,λi d=>⟨?_,frozen_of_row _ _ _ _ _ c⟩⟩;rw[cell_of_row _ _ _ _ _ _ c,eS];simp at d;simp[List.getD,d]
theorem bV.rd {W:World} {b:Nat} {l:List Nat} (h:bV W b l):RD W (some ⟨b,0,none⟩) (zl l):=λhn=>by
 refine⟨_,rfl,h.1,λj a=>?_⟩;rw[add_plain,Nat.zero_add,dV];exact(h.2 j (by rw[aB]at a;exact a)).1
theorem bV.ints {W:World} {b c n:Nat} {l:List Nat} (h:bV W b l) (hn:n=l.length) (hc:n<=c) (a:c<=maxLen):bh W (.slice (some ⟨b,0,none⟩) n c) (zl l):=
 ⟨_,c,by rw[aB,hn],by rw[aB,<-hn];exact hc,a,h.rd⟩
theorem bV.bU {W:World} {base g:Nat} {e:TypeId} {n:Nat} {c:Nat} {l:List Nat} (h:W.ownsRow base e 1 (.slice (some ⟨g,0,none⟩) n c) n ((zl l).map (Value.int .i64))) (hn:0<n):bV W g l:=by
 have hl:l.length=n:=by have:=h.1;simpa[aB]using this
 obtain⟨b,cap,d,_,m⟩:=h.form hn;have:b=g:=by injection d with a;injection a with a;injection a with a;exact a.symm
 subst this;refine⟨m,λi f=>⟨?_,?_⟩⟩
 ·have:=h.cells (g:=b) rfl i (.int .i64 ((l.getD i 0:Nat):Int)) (by unfold zl;simp[List.getD,f]);rw[add_plain,Nat.zero_add]at this;exact this
 ·rcases h.2 with⟨a,j⟩|⟨o,q,p,a,j,k,_⟩
  ·cases a
  ·injection a with a;injection a with a;injection a with a;subst a;exact frozen_of_row _ _ _ _ _ k
structure iD (w wr:World) (a:List Value) (l:List Nat):Prop where
 B:Below w.heap.size w wr
 X:ai wr w.heap.size a
 O:bV wr (w.heap.size+1) l
theorem iD.below {w wr W:World} {a:List Value} {l:List Nat} (h:iD w wr a l) (hb:Below wr.heap.size wr W):iD w W a l:=⟨ab h.B hb,h.X.below hb,h.O.below hb⟩
theorem iD.set {w wr:World} {a:List Value} {l:List Nat} (h:iD w wr a l) (i v:Nat):iD w (wr.setCell ⟨w.heap.size+1,i,none⟩ (.int .i64 (v:Int))) a (l.set i v):=
 ⟨h.B.setCell oS _,h.X.other _ _ oS,h.O.set i v⟩
theorem iD.start (w:World) (C S a bl n:Nat) (b:TypeId):iD w ((w.alloc (j3 C S a bl)).alloc (.cells (madeCells #[Value.int .i64 0] n) b)) (mi C S a bl) (List.replicate n 0):=
 ⟨((Below.refl _ _).alloc (Nat.le_refl _) _).alloc oS _,(ai.new _ _ _ _ rfl).alloc _,bV.made _ _ _ _ oS⟩
theorem iD.Kd (w:World) (C S a bl:Nat) (l:List Nat) (b:TypeId):iD w ((w.alloc (j3 C S a bl)).alloc (.cells (dI l) b)) (mi C S a bl) l:=
 ⟨((Below.refl _ _).alloc (Nat.le_refl _) _).alloc oS _,(ai.new _ _ _ _ rfl).alloc _,bV.new _ _ _ _ oS⟩
def subRow (s p c:Nat) (b r:List Nat) (i:Nat):Nat->List Nat
 |0=>r
 |j+1=>(subRow s p c b r i j).set (i+j) (bE s p ((subRow s p c b r i j).getD (i+j) 0) (aM s p c (b.getD j 0)))
def rL (s p:Nat) (a b:List Nat) (M:Nat):Nat->List Nat
 |0=>a
 |k+1=>subRow s p (aM s p ((rL s p a b M k).getD (M-1-k+(b.length-1)) 0) (iV s p (b.getD (b.length-1) 0))) b (rL s p a b M k) (M-1-k) b.length
def cL (s p:Nat) (a b:List Nat) (M k:Nat):Nat:=aM s p ((rL s p a b M k).getD (M-1-k+(b.length-1)) 0) (iV s p (b.getD (b.length-1) 0))
def qL (s p:Nat) (a b:List Nat) (M d:Nat):Nat->List Nat
 |0=>List.replicate d 0
 |k+1=>(qL s p a b M d k).set (M-1-k) (cL s p a b M k)
def cG (a b:List Nat):Nat:=a.length-(b.length-1)
def kx (s p:Nat) (a b:List Nat):List Nat:=qL s p a b (cG a b) (cG a b) (cG a b)
def dT (s p:Nat) (a b:List Nat):List Nat:=fg (rL s p a b (cG a b) (cG a b))
theorem mf (s p c:Nat) (b r:List Nat) (i j:Nat):(subRow s p c b r i j).length=r.length:=by
 induction j with
 |zero=>rfl
 |succ j a=>unfold subRow;rw[List.length_set,a]
theorem q9 (s p:Nat) (a b:List Nat) (M k:Nat):(rL s p a b M k).length=a.length:=by
 induction k with
 |zero=>rfl
 |succ k d=>unfold rL;rw[mf,d]
theorem wD (s p:Nat) (a b:List Nat) (M d k:Nat):(qL s p a b M d k).length=d:=by
 induction k with
 |zero=>simp[qL]
 |succ k e=>unfold qL;rw[List.length_set,e]
theorem nY {s:Nat} {l:List Nat} (h:aA s l) (i v:Nat) (b:v<s):aA s (l.set i v):=by
 intro j;have a:=h j;simp only[List.getD,List.getElem?_set]at a⊢;by_cases e:i=j
 ·subst e;by_cases hl:i<l.length
  ·simp[hl,b]
  ·have:=h i;simp[hl];omega
 ·simp[e];exact a
theorem uJ {s n:Nat} (hs:0<s):aA s (List.replicate n 0):=by
 intro j;by_cases h:j<n
 ·simp[List.getD,h,hs]
 ·simp[List.getD,h,hs]
section
variable {c s p : Nat} (h : VF c s p)
include h
theorem rA {d:Nat} {b r:List Nat} (e:aA s r) (i j:Nat):aA s (subRow s p d b r i j):=by
 induction j with
 |zero=>exact e
 |succ j a=>exact nY a _ _ (iM h (a _) (cd h _ _))
theorem uD {a b:List Nat} (d:aA s a) (M k:Nat):aA s (rL s p a b M k):=by
 induction k with
 |zero=>exact d
 |succ k e=>exact rA h e _ _
end
def eL (s p:Nat) (l:List Nat) (r c:Nat):Nat->List Nat
 |0=>(List.replicate (l.length+1) 0).set 0 c
 |k+1=>((eL s p l r c k).set k (bE s p ((eL s p l r c k).getD k 0) (aM s p (l.getD k 0) r))).set (k+1) (l.getD k 0)
def jC (s p:Nat) (l:List Nat) (r c:Nat):List Nat:=eL s p l r c l.length
theorem l6 (s p:Nat) (l:List Nat) (r c k:Nat):(eL s p l r c k).length=l.length+1:=by
 induction k with
 |zero=>simp[eL]
 |succ k a=>unfold eL;rw[List.length_set,List.length_set,a]
theorem I5 {c s p:Nat} (h:VF c s p) {l:List Nat} (hl:aA s l) {r d:Nat} (e:r<s) (b:d<s) (k:Nat):aA s (eL s p l r d k):=by
 induction k with
 |zero=>exact nY (uJ (by have:=h.aT;omega)) _ _ b
 |succ k a=>exact nY (nY a _ _ (iM h (a _) (cd h _ _))) _ _ (hl k)
theorem AP (C S P b bl r c:Nat) (l:List Nat) (A:Option Addr) (M:Nat) (w:World) (j:VF C S P) (hl:aA S l) (m:r<S) (hc:c<S) (hn:l.length<=8193)
 (B:eY w S P b bl) (D:RD w A (zl l)):
 Calls Tryz.prog 191 #[qC C S b bl,.slice A l.length M,.int .i64 r,.int .i64 c] w λe w'=>∃v,e= .returned v/\bh w' v (zl (jC S P l r c))/\Below w.heap.size w w':=by
 obtain⟨a,o⟩:∃a,a=l.length+1:=⟨_,rfl⟩;have a7:=run_make_row' (P:=Tryz.prog) 64 3 (.int .i64 0) 8 Tryz.underlying64 dd rfl .i64 .i64 a oO oO;have Y:((l.length:Int)+1)=(a:Int):=oO;have q:=Lib.hid j;have N:=Lib.hid hl;have O:=Lib.hid D;have Q:=Lib.hid B;have Z:=Lib.hid m;have z:Hid (∀k,(eL S P l r c k).length=a):=λk=>by rw[l6,o]
 have ac:Hid (∀k,aA S (eL S P l r c k)):=I5 j hl m hc;have T:Hid (jC S P l r c=eL S P l r c l.length):=rfl;have U:Hid (eL S P l r c 0=(List.replicate a 0).set 0 c):=by show _=_;rw[o];rfl
 have G:0<a:=oO;have a8:a<=8194:=oO;have a9:l.length<a:=oO;clear j hl D B m hc o;generalize H:l.length=n at*;have E:=Lib.hid H;clear H;have ad:Hid (iD w ((w.alloc (j3 C S b bl)).alloc (.cells ((madeCells #[Value.int .i64 0] a).setIfInBounds 0 (.int .i64 (c:Int))) 3)) (mi C S b bl) (eL S P l r c 0)):=by
  rw[U.out,iQ,kS];exact iD.Kd w C S b bl _ _
 have al:Hid ((((w.alloc (j3 C S b bl)).alloc (.cells (madeCells #[Value.int .i64 0] a) 3)).cell? ⟨w.heap.size+1,0,none⟩=some (.int .i64 ((0:Nat):Int)))/\((w.alloc (j3 C S b bl)).alloc (.cells (madeCells #[Value.int .i64 0] a) 3)).frozen? ⟨w.heap.size+1,0,none⟩=false):=by
  have h:=(iD.start w C S b bl a 3).O.2 0 (by simpa using G);have e:(List.replicate a 0).getD 0 0=0:=by simp[List.getD,G]
  rw[e]at h;exact h
 obtain⟨am,ap⟩:=al.out;go_enter Tryz.func191,Tryz.ntmps191;go_wp2;clear Y am ap;go_loopw [21] (λi wr=>∃k:Nat,k<=n/\i= .int .i64 k/\Hid (iD w wr (mi C S b bl) (eL S P l r c k))) (λi _=>n-(intOf i).toNat)
 case atStart=>exact⟨0,Nat.zero_le _,rfl,ad⟩
 case round=>
  obtain⟨k,a5,rfl,d⟩:=hrel;by_cases av:k<n
  ·obtain⟨a6,rfl,-,J⟩:=(O.out.below d.out.B) (by rw[aB,E.out];omega);have F:=J k (by rw[aB,E.out];exact av);rw[dV]at F;have V:Hid (l.getD k 0<S):=N.out k;have a0:Hid (eL S P l r c (k+1)=((eL S P l r c k).set k (bE S P ((eL S P l r c k).getD k 0) (aM S P (l.getD k 0) r))).set (k+1) (l.getD k 0)):=rfl;have X:Hid ((eL S P l r c k).getD k 0<S):=ac.out k _;have t:=d.out.O.2 k (by rw[z.out];omega);have y:=d.out.O.2 (k+1) (by rw[z.out];omega);generalize a1:l.getD k 0=x at*;generalize a2:(eL S P l r c k).getD k 0=u at*;generalize a4:(eL S P l r c k).getD (k+1) 0=u2 at*;have g:Hid (∀W,af wr W->(W.cell? ⟨w.heap.size,0,none⟩=some (.int .i64 C)/\W.cell? ⟨w.heap.size,1,none⟩=some (.int .i64 S)/\W.cell? ⟨w.heap.size,2,none⟩=some (.slice (some ⟨b,0,none⟩) (S-1) (S-1))/\W.cell? ⟨w.heap.size,3,none⟩=some (.slice (some ⟨bl,0,none⟩) S S))/\W.cell? ⟨w.heap.size+1,k,none⟩=some (.int .i64 (u:Int))/\W.frozen? ⟨w.heap.size+1,k,none⟩=false/\W.cell? ⟨w.heap.size+1,k+1,none⟩=some (.int .i64 (u2:Int))/\W.frozen? ⟨w.heap.size+1,k+1,none⟩=false):=by
    show∀W,_;intro W f;exact⟨kJ (d.out.X.below f),(f.cell d.out.O.1).trans t.1,(f.frozen d.out.O.1).trans t.2,(f.cell d.out.O.1).trans y.1,(f.frozen d.out.O.1).trans y.2⟩
   have bb:k<a:=oO;have bo:k+1<a:=oO;clear a1 a2 a4 J t y;go_wp2;clear F;refine du (S:=af wr) 13 oK oK (ak (Below.refl _ _)) ?_;simp only[List.take_succ_cons,List.take_zero,List.drop_succ_cons,List.drop_zero]
   repeat refine kO g.out ?_
   refine kX (λW f=>zM C S P b bl x r W q.out V.out Z.out ((Q.out.below d.out.B).below f)) ?_
   repeat refine kO g.out ?_
   refine kX (λW f=>yd C S P b bl u (aM S P x r) W q.out X.out (cd q.out _ _)) ?_
   repeat refine kO g.out ?_
   refine eO ?_;intro w1 K;have L:=Lib.hid K;clear K;obtain⟨-,bd,be,a3,bf⟩:=g.out w1 L.out;have bi:∀v,(w1.setCell ⟨w.heap.size+1,k,none⟩ v).cell? ⟨w.heap.size+1,k+1,none⟩=some (.int .i64 (u2:Int)):=λv=>(World.cell?_setCell_other w1 _ _ _ (λe=>by injection e;omega)).trans a3;go_wp2;exact⟨⟨k+1,by omega,by go_num,by rw[a0.out];exact((d.out.below L.out).set _ _).set _ _⟩,by simp[intOf];omega⟩
  ·obtain rfl:k=n:=oO;go_wp2;go_ret;refine⟨_,rfl,?_,d.out.B⟩;rw[T.out];exact d.out.O.ints (z.out _).symm oO oM
theorem Jn {w:World} {base:Nat} {e:TypeId} {v:Value} {n:Nat} {l:List Nat} (h:w.ownsRow base e 1 v n ((zl l).map (Value.int .i64))) (hn:0<n):
 ∃g cap,v= .slice (some ⟨g,0,none⟩) n cap/\base<=g/\n<=cap/\cap<=maxLen/\bV w g l:=by
 rcases h.2 with⟨_,a⟩|⟨g,cap,f,rfl,a,d,b,c,_⟩
 ·omega
 ·exact⟨g,cap,rfl,a,b,c,bV.bU h hn⟩
theorem JS {w:World} {base:Nat} {e:TypeId} {v:Value} {n:Nat} {l:List Nat} (h:w.ownsRow base e 1 v n ((zl l).map (Value.int .i64))):
 ∃A cap,v= .slice A n cap/\n<=cap/\cap<=maxLen/\RD w A (zl l):=by
 rcases h.2 with⟨rfl,rfl⟩|⟨g,cap,i,rfl,d,f,b,c,_⟩
 ·have hl:l.length=0:=by have:=h.1;simpa[aB]using this
  have:l=[]:=List.eq_nil_of_length_eq_zero hl;subst this;exact⟨none,0,rfl,Nat.le_refl _,by simp[maxLen],RD.dD _ _⟩
 ·rcases Nat.eq_zero_or_pos n with a|a
  ·subst a;have hl:l.length=0:=by have:=h.1;simpa[aB]using this
   have:l=[]:=List.eq_nil_of_length_eq_zero hl;subst this;exact⟨_,cap,rfl,b,c,RD.dD _ _⟩
  ·exact⟨_,cap,rfl,b,c,(bV.bU h a).rd⟩
theorem zD (l:List Nat) (n:Nat) (hn:n=l.length) (A:Option Addr) (a:Nat) (w:World) (c:n<=100000) (b:n<=a) (d:RD w A (zl l)):
 Calls Tryz.prog 116 #[.slice A n a] w λe w'=>∃v,e= .returned v/\bh w' v (zl (fg l))/\Below w.heap.size w w':=by
 have e:n=(zl l).length:=by rw[aB];exact hn
 rw[e]at c b⊢;rw[<-IK];exact Ii _ _ _ _ oO b d
structure ld (w wr:World) (a:List Value) (g q:Nat) (r b:List Nat):Prop where
 B:Below w.heap.size w wr
 X:ai wr w.heap.size a
 R:bV wr g r
 Q:bV wr q b
 hg:w.heap.size<g
 hq:w.heap.size<q
 n:g≠q
theorem ld.below {w wr W:World} {a:List Value} {g q:Nat} {r b:List Nat} (h:ld w wr a g q r b) (hb:Below wr.heap.size wr W):ld w W a g q r b:=
 ⟨ab h.B hb,h.X.below hb,h.R.below hb,h.Q.below hb,h.hg,h.hq,h.n⟩
theorem ld.Ly {w wr:World} {a:List Value} {g q:Nat} {r b:List Nat} (h:ld w wr a g q r b) (i v:Nat):ld w (wr.setCell ⟨g,i,none⟩ (.int .i64 (v:Int))) a g q (r.set i v) b:=
 ⟨h.B.setCell (by have:=h.hg;simp;omega) _,h.X.other _ _ (by have:=h.hg;simp;omega),h.R.set i v,h.Q.other _ _ (Ne.symm h.n),h.hg,h.hq,h.n⟩
theorem ld.LC {w wr:World} {a:List Value} {g q:Nat} {r b:List Nat} (h:ld w wr a g q r b) (i v:Nat):ld w (wr.setCell ⟨q,i,none⟩ (.int .i64 (v:Int))) a g q r (b.set i v):=
 ⟨h.B.setCell (by have:=h.hq;simp;omega) _,h.X.other _ _ (by have:=h.hq;simp;omega),h.R.other _ _ h.n,h.Q.set i v,h.hg,h.hq,h.n⟩
theorem Ap (C S P f bl:Nat) (a b:List Nat) (A B:Option Addr) (u v:Nat) (w:World) (Y:VF C S P) (ad:a.length<=8193) (al:b.length<=4097) (am:1<=b.length) (Z:a.length<=b.length-1)
 (g:RD w A (zl a)):
 Calls Tryz.prog 156 #[qC C S f bl,.slice A a.length u,.slice B b.length v] w λe w'=>∃k o,e= .returned (.tuple #[k,o])/\bh w' k (zl (kx S P a b))/\bh w' o (zl (dT S P a b))/\Below w.heap.size w w':=by
 obtain⟨x,y,L,M,N⟩:=info_parts dd;have z:=Lib.hid (g.alloc (j3 C S f bl));have p:Hid (cG a b=0):=by show _=_;unfold cG;omega
 have D:Hid (kx S P a b=[]):=by show _=_;unfold kx;rw[p.out];rfl
 have E:Hid (dT S P a b=fg a):=by show _=_;unfold dT;rw[p.out];rfl
 have F:Hid (a.length=(zl a).length):=(aB a).symm;clear g;obtain⟨c,O⟩:∃c,c=b.length-1:=⟨_,rfl⟩;have ap:((b.length:Int)-1)=(c:Int):=oO;have av:a.length<=c:=oO;generalize hn:a.length=n at*;generalize G:b.length=m at*;have H:=Lib.hid hn;clear hn G O;go_enter Tryz.func156,Tryz.ntmps156;go_wp2_with(at_builtin;refine eA rfl _ _ _ rfl (w.heap.size+1) 3 x _ Tryz.underlying64 y L M N rfl (.slice none 0 0) 0 [] rfl (World.ownsRow_nil _ _ _ _) A n _ (zl a) rfl F.out z.out oO oS ?_;intro v1 w1 t hg Q;have T:Hid (Below w.heap.size w w1):=((Below.refl _ _).alloc (Nat.le_refl _) _).grown hg oS (λj d=>by cases d);obtain⟨J,c1,rfl,U,a0,q⟩:=JS (l:=a) (n:=n) (by simpa using t);have V:=Lib.hid q;clear t hg Q q)
 go_loopw [9] (λi wr=>∃j:Int,i= .int .i64 j/\Hid (j<0)/\Hid (wr=w1)) (λ_ _=>0)
 case atStart=>exact⟨_,rfl,by show _<_;omega,rfl⟩
 case round=>
  obtain⟨j,rfl,d,K⟩:=hrel;obtain rfl:=K.out;have a1:=d.out;go_wp2_with(go_at_call 116;refine(zD a n H.out.symm J c1 _ oO U V.out).mono ?_;rintro e w2 ⟨ac,rfl,r,s⟩;have W:=Lib.hid r;have X:=Lib.hid s;clear r s)
  go_ret2
  refine⟨_,_,rfl,?_,?_,ab T.out X.out⟩
  ·rw[D.out];exact bh.dD _
  ·rw[E.out];exact W.out
theorem yN (C S P o bl:Nat) (a b:List Nat) (A B:Option Addr) (b9 ca:Nat) (w:World) (H:VF C S P) (a7:aA S a) (a8:aA S b) (ex:a.length<=8193) (ey:b.length<=4097) (z:1<=b.length) (en:b.length<=a.length)
 (a9:b.getD (b.length-1) 0≠0) (J:eY w S P o bl) (am:RD w A (zl a)) (hb:RD w B (zl b)):
 Calls Tryz.prog 156 #[qC C S o bl,.slice A a.length b9,.slice B b.length ca] w λe w'=>∃ap av,e= .returned (.tuple #[ap,av])/\bh w' ap (zl (kx S P a b))/\bh w' av (zl (dT S P a b))/\Below w.heap.size w w':=by
 obtain⟨cb,ce,cs,cv,cx⟩:=info_parts dd;obtain⟨M,F⟩:∃M,M=cG a b:=⟨_,rfl⟩;obtain⟨c,N⟩:∃c,c=b.length-1:=⟨_,rfl⟩;have ej:M=a.length-(b.length-1):=F;have c2:=run_make_row' (P:=Tryz.prog) 64 3 (.int .i64 0) 8 Tryz.underlying64 dd rfl .i64 .i64 M oO oO;have a0:=Lib.hid (am.alloc (j3 C S o bl));have a1:=Lib.hid hb;have a2:=Lib.hid J;have v:=Lib.hid H;have bb:=Lib.hid a8;have cg:Hid (kx S P a b=qL S P a b M M M):=by show _=_;rw[F];rfl
 have ch:Hid (dT S P a b=fg (rL S P a b M M)):=by show _=_;rw[F];rfl
 have c3:Hid (∀k,rL S P a b M (k+1)=subRow S P (cL S P a b M k) b (rL S P a b M k) (M-1-k) b.length):=λk=>rfl;have c4:Hid (∀k,cL S P a b M k=aM S P ((rL S P a b M k).getD (M-1-k+c) 0) (iV S P (b.getD c 0))):=λk=>by rw[N];rfl
 have c5:Hid (∀k,qL S P a b M M (k+1)=(qL S P a b M M k).set (M-1-k) (cL S P a b M k)):=λk=>rfl;have bd:Hid (∀k,aA S (rL S P a b M k)):=λk=>uD H a7 _ _;have al:Hid (∀k,(rL S P a b M k).length=a.length):=λk=>q9 _ _ _ _ _ _;have b8:Hid (∀k,(qL S P a b M M k).length=M):=λk=>wD _ _ _ _ _ _ _;have a3:Hid (a.length=(zl a).length):=(aB a).symm;have c6:Hid (b.getD c 0≠0):=by rw[N];exact a9
 have c7:((b.length:Int)-1)=(c:Int):=oO;have c8:((a.length:Int)-(c:Int))=(M:Int):=oO;have be:(c:Int)<(a.length:Int):=oO;have ez:1<=M:=oO;have e0:M<=8193:=oO;have e9:M+c<=a.length:=oO;have c9:c<b.length:=oO;have f0:b.length<=c+1:=oO;clear am hb J H a7 a8 a9 F ej N;generalize hn:a.length=n at*;generalize a4:b.length=m at*;have eq:=Lib.hid hn;have K:=Lib.hid a4;clear hn a4;go_enter Tryz.func156,Tryz.ntmps156;go_wp2_with(at_builtin;refine eA rfl _ _ _ rfl (w.heap.size+1) 3 cb _ Tryz.underlying64 ce cs cv cx rfl (.slice none 0 0) 0 [] rfl (World.ownsRow_nil _ _ _ _) A n _ (zl a) rfl a3.out a0.out oO oS ?_;intro v1 w1 b5 hg dl;have O:Hid (Below (w.alloc (j3 C S o bl)).heap.size (w.alloc (j3 C S o bl)) w1):=(Below.refl _ _).grown hg (Nat.le_refl _) (λj E=>by cases E);obtain⟨g,c1,rfl,fb,dm,fd,b6⟩:=Jn (l:=a) (n:=n) (by simpa using b5) oO;have b7:=Lib.hid b6;clear b5 hg dl b6)
 clear c7 c8;have dn:Hid (ld w (w1.alloc (.cells (madeCells #[Value.int .i64 0] M) 3)) (mi C S o bl) g w1.heap.size a (List.replicate M 0)):=by
  have be:=O.out.size;simp at be;exact⟨ae (cN O.out) _,((ai.new _ _ _ _ rfl).below O.out).alloc _,b7.out.below ((Below.refl _ _).alloc (Nat.le_refl _) _),bV.made _ _ _ _ rfl,by omega,by omega,Nat.ne_of_lt b7.out.1⟩
 generalize hq:w1.heap.size=q at*;clear hq;clear c2 a3 a0;go_loopw [9] (λi wr=>∃(k:Nat) (j:Int),k<=M/\i= .int .i64 j/\Hid (j=(M:Int)-1-k)/\Hid (ld w wr (mi C S o bl) g q (rL S P a b M k) (qL S P a b M M k))) (λi _=>(intOf i+1).toNat)
 case atStart=>exact⟨0,_,Nat.zero_le _,rfl,by show _=_;omega,dn⟩
 case round=>
  obtain⟨k,j,er,rfl,E,p⟩:=hrel;by_cases f1:k<M
  ·obtain⟨i,Q⟩:∃i,i=M-1-k:=⟨_,rfl⟩;have fn:i<M:=oO;have fo:i+c<n:=oO;obtain rfl:j=(i:Int):=by have:=E.out;omega
   have T:=c3.out k;have U:=c5.out k;have V:=c4.out k;rw[<-Q]at T U V;obtain⟨a5,rfl,-,ds⟩:=a1.out (by rw[aB,K.out];omega);have bf:Hid (∀W,af w W->∀s,s<m->W.cell? (a5.add s)=some (.int .i64 ((b.getD s 0:Nat):Int))):=by
    show∀W,_;intro W d s J;obtain⟨fr,e,_,hc⟩:=a1.out.below d (by rw[aB,K.out];omega);injection e with e;subst e;rw[hc s (by rw[aB,K.out];omega),dV]
   have bi:=p.out.R.2 (i+c) (by rw[al.out];omega);have X:=p.out.Q.2 i (by rw[b8.out];omega);have ci:Hid ((rL S P a b M k).getD (i+c) 0<S):=bd.out k _;have dx:Hid (b.getD c 0<S):=bb.out c;have ek:=Lib.hid (bd.out k);have el:=Lib.hid (al.out k);generalize dy:rL S P a b M k=r at*;generalize d0:qL S P a b M M k=ck at*;generalize d1:cL S P a b M k=f at*;generalize Y:r.getD (i+c) 0=u at*;generalize Z:b.getD c 0=a6 at*;generalize d2:ck.getD i 0=co at*;have L:Hid (∀W,af wr W->((W.cell? ⟨w.heap.size,0,none⟩=some (.int .i64 C)/\W.cell? ⟨w.heap.size,1,none⟩=some (.int .i64 S)/\W.cell? ⟨w.heap.size,2,none⟩=some (.slice (some ⟨o,0,none⟩) (S-1) (S-1))/\W.cell? ⟨w.heap.size,3,none⟩=some (.slice (some ⟨bl,0,none⟩) S S))/\W.cell? ⟨g,i+c,none⟩=some (.int .i64 (u:Int))/\W.cell? (a5.add c)=some (.int .i64 (a6:Int)))/\W.cell? ⟨q,i,none⟩=some (.int .i64 (co:Int))/\W.frozen? ⟨q,i,none⟩=false):=by
    show∀W,_;intro W d;refine⟨⟨kJ (p.out.X.below d),(d.cell p.out.R.1).trans bi.1,?_⟩,(d.cell p.out.Q.1).trans X.1,(d.frozen p.out.Q.1).trans X.2⟩;rw[bf.out W (ab p.out.B d) c c9,Z]
   have d3:=Lib.hid T;have d4:=Lib.hid U;have bo:=Lib.hid V;have fv:=Lib.hid Z;have d5:=Lib.hid Q;clear T U V ds bi X dy d0 d1 Y Z d2 Q;have bq:(0:Int)<=(i:Int)+c:=oO;have bs:(i:Int)+c<(n:Int):=oO;have bt:((i:Int)+c).toNat=i+c:=oO;have ac:IntKind.i64.wrap ((i:Int)+c)=(i:Int)+c:=aJ _ oO oO;go_wp2;refine du (S:=af wr) 12 oK oK (ak (Below.refl _ _)) ?_;simp only[List.take_succ_cons,List.take_zero,List.drop_succ_cons,List.drop_zero]
   repeat refine kO L.out ?_
   refine kX (λW d=>IX C S P o bl u a6 W v.out ci.out dx.out c6.out ((a2.out.below p.out.B).below d)) ?_
   repeat refine kO L.out ?_
   refine eO ?_;intro w2 z;have D:=Lib.hid z;clear z;clear ac bt bq bs;rw[<-bo.out];have d6:Hid (f<S):=by rw[bo.out];exact cd v.out _ _
   obtain⟨-,bv,bx⟩:=L.out w2 D.out;have d7:Hid (ld w (w2.setCell ⟨q,i,none⟩ (.int .i64 (f:Int))) (mi C S o bl) g q r (qL S P a b M M (k+1))):=by
    rw[d4.out];exact(p.out.below D.out).LC i f
   have d8:Hid (∀x,subRow S P f b r i (x+1)=(subRow S P f b r i x).set (i+x) (bE S P ((subRow S P f b r i x).getD (i+x) 0) (aM S P f (b.getD x 0)))):=λx=>rfl;have d9:Hid (∀x,aA S (subRow S P f b r i x)):=λx=>rA v.out ek.out i x;have ea:Hid (∀x,(subRow S P f b r i x).length=n):=λx=>(mf _ _ _ _ _ _ _).trans el.out;go_wp2;clear bv bx;generalize w2.setCell ⟨q,i,none⟩ (.int .i64 (f:Int))=es at*;go_loopw [52] (λs wr=>∃x:Nat,x<=m/\s= .int .i64 x/\Hid (ld w wr (mi C S o bl) g q (subRow S P f b r i x) (qL S P a b M M (k+1)))) (λs _=>m-(intOf s).toNat)
   case atStart=>exact⟨0,Nat.zero_le _,rfl,d7⟩
   case round=>
    obtain⟨x,et,rfl,t⟩:=hrel;by_cases em:x<m
    ·have cp:=bf.out _ t.out.B x em;have cq:Hid (b.getD x 0<S):=bb.out x;have b1:=d8.out x;have ec:Hid ((subRow S P f b r i x).getD (i+x) 0<S):=d9.out x _;have ad:=t.out.R.2 (i+x) (by rw[ea.out];omega);generalize ed:b.getD x 0=y at*;generalize Y:(subRow S P f b r i x).getD (i+x) 0=u2 at*;have ef:=Lib.hid b1;have G:Hid (∀W,af wr W->(W.cell? ⟨w.heap.size,0,none⟩=some (.int .i64 C)/\W.cell? ⟨w.heap.size,1,none⟩=some (.int .i64 S)/\W.cell? ⟨w.heap.size,2,none⟩=some (.slice (some ⟨o,0,none⟩) (S-1) (S-1))/\W.cell? ⟨w.heap.size,3,none⟩=some (.slice (some ⟨bl,0,none⟩) S S))/\W.cell? ⟨g,i+x,none⟩=some (.int .i64 (u2:Int))/\W.frozen? ⟨g,i+x,none⟩=false):=by
      show∀W,_;intro W d;exact⟨kJ (t.out.X.below d),(d.cell t.out.R.1).trans ad.1,(d.frozen t.out.R.1).trans ad.2⟩
     clear ed Y ad b1;have bq:(0:Int)<=(i:Int)+x:=oO;have bs:(i:Int)+x<(n:Int):=oO;have bt:((i:Int)+x).toNat=i+x:=oO;have ac:IntKind.i64.wrap ((i:Int)+x)=(i:Int)+x:=aJ _ oO oO;go_wp2;clear cp;refine du (S:=af wr) 17 oK oK (ak (Below.refl _ _)) ?_;simp only[List.take_succ_cons,List.take_zero,List.drop_succ_cons,List.drop_zero]
     repeat refine kO G.out ?_
     refine kX (λW d=>zM C S P o bl f y W v.out d6.out cq.out ((a2.out.below t.out.B).below d)) ?_
     repeat refine kO G.out ?_
     refine kX (λW d=>yd C S P o bl u2 (aM S P f y) W v.out ec.out (cd v.out _ _)) ?_
     repeat refine kO G.out ?_
     refine eO ?_;intro cr z;have b2:=Lib.hid z;clear z;obtain⟨-,bv,bx⟩:=G.out cr b2.out;go_wp2;clear ac;exact⟨⟨x+1,by omega,by go_num,by rw[ef.out];exact(t.out.below b2.out).Ly _ _⟩,by simp[intOf];omega⟩
    ·obtain rfl:x=m:=oO;go_wp2;exact⟨⟨k+1,_,by omega,rfl,by have:=d5.out;show _=_;omega,by rw[d3.out];exact t⟩,by simp[intOf]⟩
  ·obtain rfl:k=M:=oO;have fx:j<0:=by have:=E.out;omega
   go_wp2_with(go_at_call 116;refine(zD (rL S P a b k k) n (al.out k).symm _ _ _ oO dm p.out.R.rd).mono ?_;rintro e w2 ⟨eu,rfl,b3,b4⟩;have eh:=Lib.hid b3;have D:=Lib.hid b4;clear b3 b4)
   go_ret2
   refine⟨_,_,rfl,?_,?_,ab p.out.B D.out⟩
   ·rw[cg.out];exact(p.out.Q.ints (b8.out _).symm (Nat.le_refl _) oM).below D.out
   ·rw[ch.out];exact eh.out
theorem my (c s p:Int) (xs:List Int) (n:Nat) (hn:n=xs.length) (A:Option Addr) (a:Nat) (w:World) (b:n<=9223372036854775807) (d:RD w A xs):
 Calls Tryz.prog 190 #[ba c s p,.slice A n a] w λe w'=>e= .returned (.bool (fK s xs))/\Below w.heap.size w w':=by
 subst hn;exact AA c s p xs A a w b d
def gI (s:Int) (xs:List Int):Bool:=decide (xs.length<=4097)&&(decide (xs.length=0)||!decide (xs.getD (xs.length-1) 0=0))&&fK s xs
structure Sl where
 A:Option Addr
 n:Nat
 c:Nat
 xs:List Int
abbrev Sl.v (q:Sl):Value:= .slice q.A q.n q.c
structure Sl.R (q:Sl) (w:World):Prop where
 hn:q.n=q.xs.length
 hm:q.n<=9223372036854775807
 rd:RD w q.A q.xs
 hc:q.n<=q.c
 rm:q.c<=maxLen
theorem Sl.R.below {q:Sl} {W a:World} (h:q.R W) (hb:Below W.heap.size W a):q.R a:=⟨h.hn,h.hm,h.rd.below hb,h.hc,h.rm⟩
theorem Sl.R.ints {q:Sl} {w:World} (h:q.R w):bh w q.v q.xs:=⟨q.A,q.c,by rw[<-h.hn],by rw[<-h.hn];exact h.hc,h.rm,h.rd⟩
theorem bh.sl {w:World} {v:Value} {xs:List Int} (h:bh w v xs):∃q:Sl,v=q.v/\q.R w/\q.xs=xs:=by
 obtain⟨A,c,rfl,b,a,d⟩:=h;exact⟨⟨A,xs.length,c,xs⟩,rfl,⟨rfl,by unfold maxLen at a;simp only;omega,d,b,a⟩,rfl⟩
instance:Inhabited Sl:=⟨⟨none,0,0,[]⟩⟩
structure qw (w:World) (V:Option Addr) (ps:List Sl):Prop where
 rd:0<ps.length->∃b,V=some ⟨b,0,none⟩/\b<w.heap.size/\∀j,j<ps.length->w.cell? ⟨b,j,none⟩=some (ps.getD j default).v
 el:∀q∈ps,q.R w
theorem qw.below {V:Option Addr} {ps:List Sl} {W a:World} (h:qw W V ps) (hb:Below W.heap.size W a):qw a V ps:=
 ⟨λhn=>by obtain⟨b,e,hl,hc⟩:=h.rd hn;exact⟨b,e,Nat.lt_of_lt_of_le hl hb.size,λj c=>(hb.cell hl).trans (hc j c)⟩,λq hq=>(h.el q hq).below hb⟩
theorem qw.dD (w:World) (V:Option Addr):qw w V []:=⟨λh=>absurd h oS,λq hq=>by cases hq⟩
theorem qw.two {w:World} {q r:Sl} (a:TypeId) (b:Nat) (hb:b=w.heap.size) (h:q.R w) (g:r.R w):qw (w.alloc (.cells #[q.v,r.v] a)) (some ⟨b,0,none⟩) [q,r]:=by
 refine⟨λ_=>⟨b,rfl,by simp;omega,λj c=>?_⟩,λe hq=>?_⟩
 ·have:=(ai.new w #[q.v,r.v] a b hb).2 j (by simpa using c);rw[this];have:j=0\/j=1:=by simp at c;omega
  rcases this with rfl|rfl<;>rfl
 ·have d:Below w.heap.size w (w.alloc (.cells #[q.v,r.v] a)):=(Below.refl _ _).alloc (Nat.le_refl _) _;rcases List.mem_cons.1 hq with rfl|hq
  ·exact h.below d
  ·obtain rfl:e=r:=by simpa using hq
   exact g.below d
theorem GB {ps:List Sl} {f:Sl->Bool} {k:Nat} (a:k<ps.length) (h:f (ps.getD k default)=false):ps.all f=false:=by
 rw[List.all_eq_false];refine⟨ps[k],List.getElem_mem a,?_⟩;have e:ps.getD k default=ps[k]:=by simp[List.getD,a]
 rw[e]at h;simpa using h
theorem J6 {ps:List Sl} {f:Sl->Bool} (h:∀j,j<ps.length->f (ps.getD j default)=true):ps.all f=true:=by
 rw[List.all_eq_true];intro q hq;obtain⟨j,a,rfl⟩:=List.getElem_of_mem hq;have:=h j a;simpa[List.getD,a]using this
theorem qw.at_ {w:World} {V:Option Addr} {ps:List Sl} (h:qw w V ps) {k:Nat} (a:k<ps.length):(ps.getD k default).R w:=by
 have e:ps.getD k default=ps[k]:=by simp[List.getD,a]
 rw[e];exact h.el _ (List.getElem_mem a)
theorem E9 {s:Int} {xs:List Int} (h:4097<xs.length):gI s xs=false:=by
 unfold gI;rw[show decide (xs.length<=4097)=false from by simp;omega];rfl
theorem EC {s:Int} {xs:List Int} (h:1<=xs.length) (a:xs.getD (xs.length-1) 0=0):gI s xs=false:=by
 unfold gI;rw[show decide (xs.length=0)=false from by simp;intro e;rw[e]at h;simp at h,a];simp
theorem vi {s:Int} {xs:List Int} (h:xs.length<=4097) (a:xs.length=0\/xs.getD (xs.length-1) 0≠0):gI s xs=fK s xs:=by
 unfold gI;rw[show decide (xs.length<=4097)=true from by simp;omega];rcases a with a|a
 ·rw[show decide (xs.length=0)=true from by simpa using a];simp
 ·rw[show decide (xs.getD (xs.length-1) 0=0)=false from by simpa using a];simp
abbrev oP (c s p:Int):List Value:=[.int .i64 c,.int .i64 s,.int .i64 p]
abbrev iT (c s p:Int):Obj:= .cells #[.int .i64 c,.int .i64 s,.int .i64 p] 89
theorem kQ {W:World} {b:Nat} {c s p:Int} (h:ai W b (oP c s p)):W.cell? ⟨b,0,none⟩=some (.int .i64 c)/\W.cell? ⟨b,1,none⟩=some (.int .i64 s)/\W.cell? ⟨b,2,none⟩=some (.int .i64 p):=
 ⟨h.2 0 oS,h.2 1 oS,h.2 2 oS⟩
theorem tX (c s p:Int) (V:Option Addr) (m ad:Nat) (ps:List Sl) (w:World) (N:m=ps.length) (a5:m<=1000) (O:p<=9223372036854775807) (hs:qw w V ps):
 Calls Tryz.prog 154 #[ba c s p,.slice V m ad] w λe w'=>e= .returned (.bool (aW c s p&&ps.all λq=>gI s q.xs))/\Below w.heap.size w w':=by
 have al:Hid (ai (w.alloc (iT c s p)) w.heap.size (oP c s p)):=ai.new _ _ _ _ rfl;have P:=Lib.hid (hs.below ((Below.refl _ _).alloc (Nat.le_refl _) (iT c s p)));have t:=Lib.hid N;clear N hs;by_cases o:aW c s p=true
 ·have r:=Lib.hid o;clear o;go_enter Tryz.func154,Tryz.ntmps154;go_wp2_with(go_at_call 149;refine(ij c s p _ O).mono ?_;rintro e w1 ⟨rfl,v⟩;rw[r.out];have G:=Lib.hid v;clear v)
  go_loopw [13] (λi wr=>∃k:Nat,k<=m/\i= .int .i64 k/\Hid (∀j,j<k->gI s (ps.getD j default).xs=true)/\Hid (Below (w.alloc (iT c s p)).heap.size (w.alloc (iT c s p)) wr)) (λi _=>m-(intOf i).toNat)
  case atStart=>exact⟨0,Nat.zero_le _,rfl,λj am=>by omega,G.out⟩
  case round=>
   obtain⟨k,a2,rfl,hid,g⟩:=hrel;by_cases H:k<m
   ·obtain⟨b,rfl,-,hc⟩:=(P.out.below g.out).rd (by rw[<-t.out];omega);have ap:=hc k (by rw[<-t.out];exact H);have E:=Lib.hid ((P.out.below g.out).at_ (k:=k) (by rw[<-t.out];exact H));have av:Hid (gI s (ps.getD k default).xs=false->ps.all (λq=>gI s q.xs)=false):=λh=>GB (f:=λq=>gI s q.xs) (by rw[<-t.out];exact H) h;obtain⟨a6,a7,a8⟩:=kQ (al.out.below g.out);clear hc;generalize y:ps.getD k default=q at*;have a0:=Lib.hid y;clear y;obtain⟨A,n,F,xs⟩:=q;have Y:=E.out.hm;have J:=E.out.hn;have C:Hid (RD wr A xs):=Lib.hid E.out.rd;simp only[Sl.v]at ap Y J;have a:=Lib.hid J;clear J;have M:Hid (gI s xs=false->Value.bool false= .bool (aW c s p&&ps.all λq=>gI s q.xs)):=λh=>by rw[r.out,av.out h];rfl
    have Z:Hid (gI s xs=true->∀j,j<k+1->gI s (ps.getD j default).xs=true):=λh j am=>by
     by_cases a1:j=k
     ·subst a1;rw[a0.out];exact h
     ·exact hid.out j oO
    by_cases ac:4097<n
    ·have u:=Lib.hid (M.out (E9 (by rw[<-a.out];exact ac)));go_wp2;go_ret;exact⟨congrArg Ending.returned u.out,cN g.out⟩
    ·have W:n<=4097:=oO;clear ac Y;by_cases Q:n=0
     ·subst Q;have X:xs=[]:=List.eq_nil_of_length_eq_zero a.out.symm;have d:Hid (fK s xs=true):=by show _=_;rw[X];rfl
      have K:=Lib.hid (Z.out (by rw[vi (by rw[<-a.out];omega) (.inl a.out.symm)];exact d.out));clear X;go_wp2_with(go_at_call 190;refine(my c s p xs 0 a.out A F _ oO C.out).mono ?_;rintro e w2 ⟨rfl,l⟩;rw[d.out];have z:=Lib.hid l;clear l)
      exact⟨⟨k+1,by omega,by go_num,K.out,ab g.out z.out⟩,by simp[intOf];omega⟩
     ·obtain⟨q,y⟩:∃q,q=n-1:=⟨_,rfl⟩;have a9:(n:Int)-1=(q:Int):=oO;have bb:q<n:=oO;have bd:q<=4096:=oO;have be:1<=n:=oO;have a3:decide ((4097:Int)<(n:Int))=false:=by simp;omega
      have bf:decide ((0:Int)<(n:Int))=true:=by simp;omega
      obtain⟨S,rfl,-,hc⟩:=C.out (by rw[<-a.out];omega);have bi:=hc q (by rw[<-a.out];omega);have L:=Lib.hid W;have T:Hid (xs.getD (xs.length-1) 0=xs.getD q 0):=by show _=_;rw[<-a.out,y]
      clear W Q y;clear hc;generalize xs.getD q 0=x at*;by_cases D:x=0
      ·subst D;have u:=Lib.hid (M.out (EC (by rw[<-a.out];omega) T.out));go_wp2;go_ret;exact⟨congrArg Ending.returned u.out,cN g.out⟩
      ·have U:=Lib.hid (vi (s:=s) (xs:=xs) (by rw[<-a.out];exact L.out) (.inr (by rw[T.out];exact D)));have a4:(x==0)=false:=by rw[beq_eq_false_iff_ne];exact D
       clear D;cases B:fK s xs with
       |true=>
        have d:=Lib.hid B;have K:=Lib.hid (Z.out (by rw[U.out];exact d.out));clear B;go_wp2_with(go_at_call 190;refine(my c s p xs n a.out (some S) F _ (by have:=L.out;omega) C.out).mono ?_;rintro e w2 ⟨rfl,l⟩;rw[d.out];have z:=Lib.hid l;clear l)
        exact⟨⟨k+1,by omega,by go_num,K.out,ab g.out z.out⟩,by simp[intOf];omega⟩
       |false=>
        have d:=Lib.hid B;have u:=Lib.hid (M.out (by rw[U.out];exact d.out));clear B;go_wp2_with(go_at_call 190;refine(my c s p xs n a.out (some S) F _ (by have:=L.out;omega) C.out).mono ?_;rintro e w2 ⟨rfl,l⟩;rw[d.out];have z:=Lib.hid l;clear l)
        go_ret;exact⟨congrArg Ending.returned u.out,cN (ab g.out z.out)⟩
   ·obtain rfl:k=m:=oO;have d:=Lib.hid (J6 (ps:=ps) (f:=λq=>gI s q.xs) (by rw[<-t.out];exact hid.out));go_wp2;go_ret;exact⟨aN (by rw[r.out,d.out];rfl),cN g.out⟩
 ·have o:aW c s p=false:=by simpa using o
  have r:=Lib.hid o;clear o;go_enter Tryz.func154,Tryz.ntmps154;go_wp2_with(go_at_call 149;refine(ij c s p _ O).mono ?_;rintro e w1 ⟨rfl,v⟩;rw[r.out];have G:=Lib.hid v;clear v)
  go_ret;exact⟨aN (by rw[r.out];rfl),cN G.out⟩
theorem zI {S:Nat} {l:List Nat} (h:aA S l):fK (S:Int) (zl l)=true:=by
 refine vO λj a=>?_;rw[dV];have:=h j;omega
theorem Cj {S:Nat} {xs:List Int} (b:0<S) (h:fK (S:Int) xs=true):∃l,xs=zl l/\aA S l:=by
 refine⟨xs.map Int.toNat,?_,?_⟩
 ·unfold fK at h;rw[List.all_eq_true]at h;unfold zl;rw[List.map_map];refine(List.map_id xs).symm.trans (List.map_congr_left λx c=>?_);have:=h x c;simp at this;show x=((x.toNat:Nat):Int);omega
 ·intro i;by_cases a:i<xs.length
  ·unfold fK at h;rw[List.all_eq_true]at h;have:=h xs[i] (List.getElem_mem a);simp at this;simp[List.getD,a];omega
  ·simp[List.getD,a,b]
theorem Ct {S:Nat} {l:List Nat} (h:aA S l) (hn:l.length<=4097) (a:gZ l):gI (S:Int) (zl l)=true:=by
 rw[vi (by rw[aB];exact hn),zI h];rcases a with rfl|a
 ·exact .inl rfl
 ·right;rw[aB,dV];omega
theorem Ht {S:Nat} {xs:List Int} (d:0<S) (h:gI (S:Int) xs=true):∃l,xs=zl l/\aA S l/\gZ l/\l.length<=4097:=by
 have b:=h;unfold gI at b;simp only[Bool.and_eq_true,decide_eq_true_eq,Bool.or_eq_true,Bool.not_eq_true',decide_eq_false_iff_not]at b;obtain⟨⟨c,a⟩,e⟩:=b;obtain⟨l,rfl,hl⟩:=Cj d e;refine⟨l,rfl,hl,?_,by rw[aB]at c;exact c⟩;rw[aB,dV]at a;rcases a with a|a
 ·exact .inl (List.eq_nil_of_length_eq_zero a)
 ·exact .inr oO
def ns (c s p:Int) (xs:List Int):Bool:=aW c s p&&gI s xs
theorem dg.cells {w wr:World} {C S P a n c bl b:Nat} (d:VF C S P) (e:a=S-1) (h:dg w wr C S P a n c bl b):
 (wr.cell? ⟨w.heap.size,0,none⟩=some (.int .i64 C)/\wr.cell? ⟨w.heap.size,1,none⟩=some (.int .i64 S)/\wr.cell? ⟨w.heap.size,2,none⟩=some (.int .i64 P))/\
 (wr.cell? ⟨b,0,none⟩=some (.int .i64 C)/\wr.cell? ⟨b,1,none⟩=some (.int .i64 S)/\wr.cell? ⟨b,2,none⟩=some (.slice (some ⟨c,0,none⟩) a a)/\wr.cell? ⟨b,3,none⟩=some (.slice (some ⟨bl,0,none⟩) S S))/\
 (n<a->(∃u,wr.cell? ⟨c,n,none⟩=some u)/\wr.frozen? ⟨c,n,none⟩=false/\(∃u,wr.cell? ⟨bl,fpowN S P (ay S P) n,none⟩=some u)/\wr.frozen? ⟨bl,fpowN S P (ay S P) n,none⟩=false):=by
 refine⟨⟨?_,?_,?_⟩,⟨?_,?_,?_,?_⟩,λhn=>⟨?_,?_,?_,?_⟩⟩
 ·rw[cell_of_row _ _ _ _ _ _ h.F];rfl
 ·rw[cell_of_row _ _ _ _ _ _ h.F];rfl
 ·rw[cell_of_row _ _ _ _ _ _ h.F];rfl
 ·rw[cell_of_row _ _ _ _ _ _ h.A];rfl
 ·rw[cell_of_row _ _ _ _ _ _ h.A];rfl
 ·rw[cell_of_row _ _ _ _ _ _ h.A];rfl
 ·rw[cell_of_row _ _ _ _ _ _ h.A];rfl
 ·rw[cell_of_row _ _ _ _ _ _ h.E,eS];refine⟨_,Option.map_eq_some_iff.2 ⟨_,List.getElem?_eq_getElem (by unfold iy;simp;omega),rfl⟩⟩
 ·exact frozen_of_row _ _ _ _ _ h.E
 ·rw[cell_of_row _ _ _ _ _ _ h.L,eS];refine⟨_,Option.map_eq_some_iff.2 ⟨_,List.getElem?_eq_getElem (by unfold jR;simp;exact dM d n),rfl⟩⟩
 ·exact frozen_of_row _ _ _ _ _ h.L
theorem eY.setCell {W:World} {S P a bl:Nat} (h:eY W S P a bl) (p:Addr) (u:Value) (b:a≠p.block) (c:bl≠p.block):eY (W.setCell p u) S P a bl:=by
 refine⟨by simpa using h.1,by simpa using h.2.1,λi d=>?_,λx f g=>?_⟩
 ·rw[World.cell?_setCell_other W p _ u (λe=>b (by rw[e]))];exact h.2.2.1 i d
 ·rw[World.cell?_setCell_other W p _ u (λe=>c (by rw[e]))];exact h.2.2.2 x f g
theorem cV (W:World) (a b c:Obj):(((W.alloc a).alloc b).alloc c).heap[W.heap.size]?=some a/\(((W.alloc a).alloc b).alloc c).heap[W.heap.size+1]?=some b/\(((W.alloc a).alloc b).alloc c).heap[W.heap.size+1+1]?=some c:=by
 refine⟨?_,?_,?_⟩
 ·exact(Below.heap_alloc _ _ _ oT).trans ((Below.heap_alloc _ _ _ oS).trans (heap_alloc_new W a))
 ·have h:=heap_alloc_new (W.alloc a) b;refine(Below.heap_alloc _ _ _ oS).trans ?_;simpa using h
 ·have h:=heap_alloc_new ((W.alloc a).alloc b) c;simpa using h
theorem dg.drew {w wr:World} {C S P a n b bl c:Nat} (h:dg w wr C S P a n b bl c):dg w wr.drew C S P a n b bl c:=
 ⟨ak h.B,h.he,h.hl,h.hs,h.n1,h.n2,h.n3,h.F,h.R,h.E,h.L,h.A⟩
theorem dg.res {w wr:World} {C S P a n b bl c:Nat} (h:dg w wr C S P a n b bl c):
 wr.cell? ⟨w.heap.size+1,0,none⟩=some (.int .i64 0)/\wr.cell? ⟨w.heap.size+1,1,none⟩=some (.int .i64 0)/\wr.cell? ⟨w.heap.size+1,2,none⟩=some (.slice none 0 0)/\wr.cell? ⟨w.heap.size+1,3,none⟩=some (.slice none 0 0)/\∀k,wr.frozen? ⟨w.heap.size+1,k,none⟩=false:=by
 refine⟨?_,?_,?_,?_,λk=>frozen_of_row _ _ _ _ _ h.R⟩<;>(rw[cell_of_row _ _ _ _ _ _ h.R];rfl)
theorem yl (C S P:Nat) (w:World) (u:VF C S P):
 Calls Tryz.prog 155 #[ba C S P] w λe w'=>∃ac bl,e= .returned (qC C S ac bl)/\eY w' S P ac bl/\Below w.heap.size w w':=by
 have a5:=u.le;have a6:=u.aT;have y:(P:Int)<=9223372036854775807:=u.qz;have hg:=jk u;have RG:Hid (s9 C S P=(((ay S P:Nat):Int),0)):=by
  show _=_;unfold s9;rw[jg u,if_pos rfl];simp
 obtain⟨a,Z⟩:∃a,a=S-1:=⟨S-1,rfl⟩;have a7:1<=a:=oO;have a8:=run_make_row' (P:=Tryz.prog) 64 3 (.int .i64 0) 8 Tryz.underlying64 dd rfl .i64 .i64 a oO oO;have a9:=run_make_row' (P:=Tryz.prog) 64 3 (.int .i64 0) 8 Tryz.underlying64 dd rfl .i64 .i64 S oO oO;have bb:IntKind.i64.wrap ((S:Int)-1)=(a:Int):=by rw[aJ _ oO oO];omega
 have be:((S:Int)-1)=(a:Int):=oO;have b:=Lib.hid u;have c:=Lib.hid Z;have A:Hid (dI (iy S P 0)=madeCells #[Value.int .i64 0] a):=by show _=_;rw[iQ,uf u,Z]
 have B:Hid (dI (jR S P 0)=madeCells #[Value.int .i64 0] S):=by show _=_;rw[iQ,vZ u]
 clear Z u;have a2:Hid (∀w1:World,Below ((w.alloc (oC C S P)).alloc y9).heap.size ((w.alloc (oC C S P)).alloc y9) w1->w.heap.size+1<w1.heap.size/\w1.heap[w.heap.size]?=some (oC C S P)/\w1.heap[w.heap.size+1]?=some y9/\Below w.heap.size w w1):=by
  intro w1 z;have hs:=z.size;simp at hs;refine⟨by omega,(z.block _ oT).trans ?_,(z.block _ oS).trans ?_,((Below.refl _ _).alloc (Nat.le_refl _) _|>.alloc oS _).trans (z.mono oT)⟩
  ·exact(Below.heap_alloc _ _ _ oS).trans (heap_alloc_new w _)
  ·have:=heap_alloc_new (w.alloc (oC C S P)) y9;simpa using this
 go_enter Tryz.func155,Tryz.ntmps155
 go_wp2_with(
  go_at_call 158;refine(qx C S P _ oO y).mono ?_;rintro e w1 ⟨rfl,z⟩;rw[RG.out]
  have g:=Lib.hid (a2.out w1 z);have bd:w.heap.size+1<w1.heap.size:=g.out.1;have am:w.heap.size<w1.heap.size:=oO;have ad:w1.cell? ⟨w.heap.size,0,none⟩=some (.int .i64 C):=(cell_of_row _ _ _ _ _ _ g.out.2.1).trans rfl;have al:w1.cell? ⟨w.heap.size,1,none⟩=some (.int .i64 S):=(cell_of_row _ _ _ _ _ _ g.out.2.1).trans rfl;have ap:∀f,(w1.alloc f).cell? ⟨w.heap.size,0,none⟩=some (.int .i64 C):=λf=>(World.cell?_alloc_lt _ _ _ (by exact am)).trans ad;have av:∀f l,((w1.alloc f).alloc l).cell? ⟨w.heap.size,0,none⟩=some (.int .i64 C):=λf l=>(World.cell?_alloc_lt _ _ _ oT).trans (ap f);have a3:∀f l W,(((w1.alloc f).alloc l).alloc W).cell? ⟨w.heap.size,0,none⟩=some (.int .i64 C):=λf l W=>(World.cell?_alloc_lt _ _ _ oT).trans (av f l);have a0:∀f,(w1.alloc f).cell? ⟨w.heap.size,1,none⟩=some (.int .i64 S):=λf=>(World.cell?_alloc_lt _ _ _ (by exact am)).trans al;have a1:∀f l,((w1.alloc f).alloc l).cell? ⟨w.heap.size,1,none⟩=some (.int .i64 S):=λf l=>(World.cell?_alloc_lt _ _ _ oT).trans (a0 f);have a4:∀f l W,(((w1.alloc f).alloc l).alloc W).cell? ⟨w.heap.size,1,none⟩=some (.int .i64 S):=λf l W=>(World.cell?_alloc_lt _ _ _ oT).trans (a1 f l)
  clear z)
 go_region
 all_goals clear ad al ap av a3 a0 a1 a4
 all_goals go_wp2
 ·go_loopw [6,28] (λx i wr=>∃n:Nat,n<=a/\i= .int .i64 (n:Nat)/\x= .int .i64 ((fpowN S P (ay S P) n:Nat):Int)/\Hid (dg w wr C S P a n (w1.heap.size) (w1.heap.size+1) (w1.heap.size+1+1))) (λ_ i _=>a-(intOf i).toNat)
  case atStart=>
   refine⟨0,Nat.zero_le _,rfl,rfl,?_⟩;refine⟨ak (ae (ae (ae g.out.2.2.2 _) _) _),by omega,by omega,by omega,by omega,by omega,by omega,?_,?_,?_,?_,?_⟩
   ·exact(Below.heap_alloc _ _ _ oT).trans ((Below.heap_alloc _ _ _ oT).trans ((Below.heap_alloc _ _ _ oO).trans g.out.2.1))
   ·exact(Below.heap_alloc _ _ _ oT).trans ((Below.heap_alloc _ _ _ oT).trans ((Below.heap_alloc _ _ _ oO).trans g.out.2.2.1))
   ·rw[A.out];exact(cV w1 _ _ _).1
   ·rw[B.out];exact(cV w1 _ _ _).2.1
   ·exact(cV w1 _ _ _).2.2
  case round=>
   obtain⟨n,hn,rfl,rfl,hid⟩:=hrel;obtain⟨⟨D,E,F⟩,⟨G,H,J,K⟩,d⟩:=dg.cells b.out c.out hid.out;by_cases j:n<a
   ·obtain⟨⟨u1,L⟩,M,⟨u2,s3⟩,N⟩:=d j;have p:fpowN S P (ay S P) n<S:=dM b.out n;have q:=Lib.hid (dg.store b.out c.out hid.out j);have m:Hid (mulR C S P (fpowN S P (ay S P) n:Nat) (ay S P:Nat)=(((fpowN S P (ay S P) (n+1):Nat):Int),0)):=by
     show _=_;unfold mulR;rw[fJ b.out p hg];simp;rfl
    generalize fpowN S P (ay S P) n=X at*;generalize k:fpowN S P (ay S P) (n+1)=Y at*;have o:=Lib.hid k;clear k;clear d;go_wp2;go_region
    all_goals go_wp2_with(go_at_call 159;refine(gu C S P X (ay S P) _ oO y).mono ?_;rintro e w2 ⟨rfl,r⟩;rw[m.out])
    all_goals go_roundw
    all_goals try(case measure=>simp[intOf];omega)
    all_goals refine⟨n+1,by omega,by go_num,by rw[o.out],?_⟩
    all_goals exact dg.below (dg.drew q.out) r
   ·obtain rfl:n=a:=oO;obtain⟨O,Q,T,U,V⟩:=dg.res hid.out;have s:=Lib.hid (dg.oZ b.out c.out hid.out);clear d;go_wp2;refine bodyPost_ret (v:= .agg #[.int .i64 C,.int .i64 S,.slice (some ⟨(w1.heap.size),0,none⟩) n n,.slice (some ⟨(w1.heap.size+1),0,none⟩) S S]) ?_ rfl ⟨(w1.heap.size),(w1.heap.size+1),?_,?_,?_⟩
    ·have t:Tryz.f155.results=#[.cell 2 200]:=oK;simp only[results,t];go_simp
    ·rw[c.out]
    ·exact(((s.out.setCell _ _ oT oT).setCell _ _ oT oT).setCell _ _ oT oT).setCell _ _ oT oT
    ·exact(((hid.out.B.setCell oS _).setCell oS _).setCell oS _).setCell oS _
 ·go_loopw [6,28] (λx i wr=>∃n:Nat,n<=a/\i= .int .i64 (n:Nat)/\x= .int .i64 ((fpowN S P (ay S P) n:Nat):Int)/\Hid (dg w wr C S P a n (w1.heap.size) (w1.heap.size+1+1) (w1.heap.size+1))) (λ_ i _=>a-(intOf i).toNat)
  case atStart=>
   refine⟨0,Nat.zero_le _,rfl,rfl,?_⟩;refine⟨ak (ae (ae (ae g.out.2.2.2 _) _) _),by omega,by omega,by omega,by omega,by omega,by omega,?_,?_,?_,?_,?_⟩
   ·exact(Below.heap_alloc _ _ _ oT).trans ((Below.heap_alloc _ _ _ oT).trans ((Below.heap_alloc _ _ _ oO).trans g.out.2.1))
   ·exact(Below.heap_alloc _ _ _ oT).trans ((Below.heap_alloc _ _ _ oT).trans ((Below.heap_alloc _ _ _ oO).trans g.out.2.2.1))
   ·rw[A.out];exact(cV w1 _ _ _).1
   ·rw[B.out];exact(cV w1 _ _ _).2.2
   ·exact(cV w1 _ _ _).2.1
  case round=>
   obtain⟨n,hn,rfl,rfl,hid⟩:=hrel;obtain⟨⟨D,E,F⟩,⟨G,H,J,K⟩,d⟩:=dg.cells b.out c.out hid.out;by_cases j:n<a
   ·obtain⟨⟨u1,L⟩,M,⟨u2,s3⟩,N⟩:=d j;have p:fpowN S P (ay S P) n<S:=dM b.out n;have q:=Lib.hid (dg.store b.out c.out hid.out j);have m:Hid (mulR C S P (fpowN S P (ay S P) n:Nat) (ay S P:Nat)=(((fpowN S P (ay S P) (n+1):Nat):Int),0)):=by
     show _=_;unfold mulR;rw[fJ b.out p hg];simp;rfl
    generalize fpowN S P (ay S P) n=X at*;generalize k:fpowN S P (ay S P) (n+1)=Y at*;have o:=Lib.hid k;clear k;clear d;go_wp2;go_region
    all_goals go_wp2_with(go_at_call 159;refine(gu C S P X (ay S P) _ oO y).mono ?_;rintro e w2 ⟨rfl,r⟩;rw[m.out])
    all_goals go_roundw
    all_goals try(case measure=>simp[intOf];omega)
    all_goals refine⟨n+1,by omega,by go_num,by rw[o.out],?_⟩
    all_goals exact dg.below (dg.drew q.out) r
   ·obtain rfl:n=a:=oO;obtain⟨O,Q,T,U,V⟩:=dg.res hid.out;have s:=Lib.hid (dg.oZ b.out c.out hid.out);clear d;go_wp2;refine bodyPost_ret (v:= .agg #[.int .i64 C,.int .i64 S,.slice (some ⟨(w1.heap.size),0,none⟩) n n,.slice (some ⟨(w1.heap.size+1+1),0,none⟩) S S]) ?_ rfl ⟨(w1.heap.size),(w1.heap.size+1+1),?_,?_,?_⟩
    ·have t:Tryz.f155.results=#[.cell 2 200]:=oK;simp only[results,t];go_simp
    ·rw[c.out]
    ·exact(((s.out.setCell _ _ oT oT).setCell _ _ oT oT).setCell _ _ oT oT).setCell _ _ oT oT
    ·exact(((hid.out.B.setCell oS _).setCell oS _).setCell oS _).setCell oS _
 ·go_loopw [6,28] (λx i wr=>∃n:Nat,n<=a/\i= .int .i64 (n:Nat)/\x= .int .i64 ((fpowN S P (ay S P) n:Nat):Int)/\Hid (dg w wr C S P a n (w1.heap.size+1) (w1.heap.size) (w1.heap.size+1+1))) (λ_ i _=>a-(intOf i).toNat)
  case atStart=>
   refine⟨0,Nat.zero_le _,rfl,rfl,?_⟩;refine⟨ak (ae (ae (ae g.out.2.2.2 _) _) _),by omega,by omega,by omega,by omega,by omega,by omega,?_,?_,?_,?_,?_⟩
   ·exact(Below.heap_alloc _ _ _ oT).trans ((Below.heap_alloc _ _ _ oT).trans ((Below.heap_alloc _ _ _ oO).trans g.out.2.1))
   ·exact(Below.heap_alloc _ _ _ oT).trans ((Below.heap_alloc _ _ _ oT).trans ((Below.heap_alloc _ _ _ oO).trans g.out.2.2.1))
   ·rw[A.out];exact(cV w1 _ _ _).2.1
   ·rw[B.out];exact(cV w1 _ _ _).1
   ·exact(cV w1 _ _ _).2.2
  case round=>
   obtain⟨n,hn,rfl,rfl,hid⟩:=hrel;obtain⟨⟨D,E,F⟩,⟨G,H,J,K⟩,d⟩:=dg.cells b.out c.out hid.out;by_cases j:n<a
   ·obtain⟨⟨u1,L⟩,M,⟨u2,s3⟩,N⟩:=d j;have p:fpowN S P (ay S P) n<S:=dM b.out n;have q:=Lib.hid (dg.store b.out c.out hid.out j);have m:Hid (mulR C S P (fpowN S P (ay S P) n:Nat) (ay S P:Nat)=(((fpowN S P (ay S P) (n+1):Nat):Int),0)):=by
     show _=_;unfold mulR;rw[fJ b.out p hg];simp;rfl
    generalize fpowN S P (ay S P) n=X at*;generalize k:fpowN S P (ay S P) (n+1)=Y at*;have o:=Lib.hid k;clear k;clear d;go_wp2;go_region
    all_goals go_wp2_with(go_at_call 159;refine(gu C S P X (ay S P) _ oO y).mono ?_;rintro e w2 ⟨rfl,r⟩;rw[m.out])
    all_goals go_roundw
    all_goals try(case measure=>simp[intOf];omega)
    all_goals refine⟨n+1,by omega,by go_num,by rw[o.out],?_⟩
    all_goals exact dg.below (dg.drew q.out) r
   ·obtain rfl:n=a:=oO;obtain⟨O,Q,T,U,V⟩:=dg.res hid.out;have s:=Lib.hid (dg.oZ b.out c.out hid.out);clear d;go_wp2;refine bodyPost_ret (v:= .agg #[.int .i64 C,.int .i64 S,.slice (some ⟨(w1.heap.size+1),0,none⟩) n n,.slice (some ⟨(w1.heap.size),0,none⟩) S S]) ?_ rfl ⟨(w1.heap.size+1),(w1.heap.size),?_,?_,?_⟩
    ·have t:Tryz.f155.results=#[.cell 2 200]:=oK;simp only[results,t];go_simp
    ·rw[c.out]
    ·exact(((s.out.setCell _ _ oT oT).setCell _ _ oT oT).setCell _ _ oT oT).setCell _ _ oT oT
    ·exact(((hid.out.B.setCell oS _).setCell oS _).setCell oS _).setCell oS _
 ·go_loopw [6,28] (λx i wr=>∃n:Nat,n<=a/\i= .int .i64 (n:Nat)/\x= .int .i64 ((fpowN S P (ay S P) n:Nat):Int)/\Hid (dg w wr C S P a n (w1.heap.size+1+1) (w1.heap.size) (w1.heap.size+1))) (λ_ i _=>a-(intOf i).toNat)
  case atStart=>
   refine⟨0,Nat.zero_le _,rfl,rfl,?_⟩;refine⟨ak (ae (ae (ae g.out.2.2.2 _) _) _),by omega,by omega,by omega,by omega,by omega,by omega,?_,?_,?_,?_,?_⟩
   ·exact(Below.heap_alloc _ _ _ oT).trans ((Below.heap_alloc _ _ _ oT).trans ((Below.heap_alloc _ _ _ oO).trans g.out.2.1))
   ·exact(Below.heap_alloc _ _ _ oT).trans ((Below.heap_alloc _ _ _ oT).trans ((Below.heap_alloc _ _ _ oO).trans g.out.2.2.1))
   ·rw[A.out];exact(cV w1 _ _ _).2.2
   ·rw[B.out];exact(cV w1 _ _ _).1
   ·exact(cV w1 _ _ _).2.1
  case round=>
   obtain⟨n,hn,rfl,rfl,hid⟩:=hrel;obtain⟨⟨D,E,F⟩,⟨G,H,J,K⟩,d⟩:=dg.cells b.out c.out hid.out;by_cases j:n<a
   ·obtain⟨⟨u1,L⟩,M,⟨u2,s3⟩,N⟩:=d j;have p:fpowN S P (ay S P) n<S:=dM b.out n;have q:=Lib.hid (dg.store b.out c.out hid.out j);have m:Hid (mulR C S P (fpowN S P (ay S P) n:Nat) (ay S P:Nat)=(((fpowN S P (ay S P) (n+1):Nat):Int),0)):=by
     show _=_;unfold mulR;rw[fJ b.out p hg];simp;rfl
    generalize fpowN S P (ay S P) n=X at*;generalize k:fpowN S P (ay S P) (n+1)=Y at*;have o:=Lib.hid k;clear k;clear d;go_wp2;go_region
    all_goals go_wp2_with(go_at_call 159;refine(gu C S P X (ay S P) _ oO y).mono ?_;rintro e w2 ⟨rfl,r⟩;rw[m.out])
    all_goals go_roundw
    all_goals try(case measure=>simp[intOf];omega)
    all_goals refine⟨n+1,by omega,by go_num,by rw[o.out],?_⟩
    all_goals exact dg.below (dg.drew q.out) r
   ·obtain rfl:n=a:=oO;obtain⟨O,Q,T,U,V⟩:=dg.res hid.out;have s:=Lib.hid (dg.oZ b.out c.out hid.out);clear d;go_wp2;refine bodyPost_ret (v:= .agg #[.int .i64 C,.int .i64 S,.slice (some ⟨(w1.heap.size+1+1),0,none⟩) n n,.slice (some ⟨(w1.heap.size),0,none⟩) S S]) ?_ rfl ⟨(w1.heap.size+1+1),(w1.heap.size),?_,?_,?_⟩
    ·have t:Tryz.f155.results=#[.cell 2 200]:=oK;simp only[results,t];go_simp
    ·rw[c.out]
    ·exact(((s.out.setCell _ _ oT oT).setCell _ _ oT oT).setCell _ _ oT oT).setCell _ _ oT oT
    ·exact(((hid.out.B.setCell oS _).setCell oS _).setCell oS _).setCell oS _
 ·go_loopw [6,28] (λx i wr=>∃n:Nat,n<=a/\i= .int .i64 (n:Nat)/\x= .int .i64 ((fpowN S P (ay S P) n:Nat):Int)/\Hid (dg w wr C S P a n (w1.heap.size+1) (w1.heap.size+1+1) (w1.heap.size))) (λ_ i _=>a-(intOf i).toNat)
  case atStart=>
   refine⟨0,Nat.zero_le _,rfl,rfl,?_⟩;refine⟨ak (ae (ae (ae g.out.2.2.2 _) _) _),by omega,by omega,by omega,by omega,by omega,by omega,?_,?_,?_,?_,?_⟩
   ·exact(Below.heap_alloc _ _ _ oT).trans ((Below.heap_alloc _ _ _ oT).trans ((Below.heap_alloc _ _ _ oO).trans g.out.2.1))
   ·exact(Below.heap_alloc _ _ _ oT).trans ((Below.heap_alloc _ _ _ oT).trans ((Below.heap_alloc _ _ _ oO).trans g.out.2.2.1))
   ·rw[A.out];exact(cV w1 _ _ _).2.1
   ·rw[B.out];exact(cV w1 _ _ _).2.2
   ·exact(cV w1 _ _ _).1
  case round=>
   obtain⟨n,hn,rfl,rfl,hid⟩:=hrel;obtain⟨⟨D,E,F⟩,⟨G,H,J,K⟩,d⟩:=dg.cells b.out c.out hid.out;by_cases j:n<a
   ·obtain⟨⟨u1,L⟩,M,⟨u2,s3⟩,N⟩:=d j;have p:fpowN S P (ay S P) n<S:=dM b.out n;have q:=Lib.hid (dg.store b.out c.out hid.out j);have m:Hid (mulR C S P (fpowN S P (ay S P) n:Nat) (ay S P:Nat)=(((fpowN S P (ay S P) (n+1):Nat):Int),0)):=by
     show _=_;unfold mulR;rw[fJ b.out p hg];simp;rfl
    generalize fpowN S P (ay S P) n=X at*;generalize k:fpowN S P (ay S P) (n+1)=Y at*;have o:=Lib.hid k;clear k;clear d;go_wp2;go_region
    all_goals go_wp2_with(go_at_call 159;refine(gu C S P X (ay S P) _ oO y).mono ?_;rintro e w2 ⟨rfl,r⟩;rw[m.out])
    all_goals go_roundw
    all_goals try(case measure=>simp[intOf];omega)
    all_goals refine⟨n+1,by omega,by go_num,by rw[o.out],?_⟩
    all_goals exact dg.below (dg.drew q.out) r
   ·obtain rfl:n=a:=oO;obtain⟨O,Q,T,U,V⟩:=dg.res hid.out;have s:=Lib.hid (dg.oZ b.out c.out hid.out);clear d;go_wp2;refine bodyPost_ret (v:= .agg #[.int .i64 C,.int .i64 S,.slice (some ⟨(w1.heap.size+1),0,none⟩) n n,.slice (some ⟨(w1.heap.size+1+1),0,none⟩) S S]) ?_ rfl ⟨(w1.heap.size+1),(w1.heap.size+1+1),?_,?_,?_⟩
    ·have t:Tryz.f155.results=#[.cell 2 200]:=oK;simp only[results,t];go_simp
    ·rw[c.out]
    ·exact(((s.out.setCell _ _ oT oT).setCell _ _ oT oT).setCell _ _ oT oT).setCell _ _ oT oT
    ·exact(((hid.out.B.setCell oS _).setCell oS _).setCell oS _).setCell oS _
 ·go_loopw [6,28] (λx i wr=>∃n:Nat,n<=a/\i= .int .i64 (n:Nat)/\x= .int .i64 ((fpowN S P (ay S P) n:Nat):Int)/\Hid (dg w wr C S P a n (w1.heap.size+1+1) (w1.heap.size+1) (w1.heap.size))) (λ_ i _=>a-(intOf i).toNat)
  case atStart=>
   refine⟨0,Nat.zero_le _,rfl,rfl,?_⟩;refine⟨ak (ae (ae (ae g.out.2.2.2 _) _) _),by omega,by omega,by omega,by omega,by omega,by omega,?_,?_,?_,?_,?_⟩
   ·exact(Below.heap_alloc _ _ _ oT).trans ((Below.heap_alloc _ _ _ oT).trans ((Below.heap_alloc _ _ _ oO).trans g.out.2.1))
   ·exact(Below.heap_alloc _ _ _ oT).trans ((Below.heap_alloc _ _ _ oT).trans ((Below.heap_alloc _ _ _ oO).trans g.out.2.2.1))
   ·rw[A.out];exact(cV w1 _ _ _).2.2
   ·rw[B.out];exact(cV w1 _ _ _).2.1
   ·exact(cV w1 _ _ _).1
  case round=>
   obtain⟨n,hn,rfl,rfl,hid⟩:=hrel;obtain⟨⟨D,E,F⟩,⟨G,H,J,K⟩,d⟩:=dg.cells b.out c.out hid.out;by_cases j:n<a
   ·obtain⟨⟨u1,L⟩,M,⟨u2,s3⟩,N⟩:=d j;have p:fpowN S P (ay S P) n<S:=dM b.out n;have q:=Lib.hid (dg.store b.out c.out hid.out j);have m:Hid (mulR C S P (fpowN S P (ay S P) n:Nat) (ay S P:Nat)=(((fpowN S P (ay S P) (n+1):Nat):Int),0)):=by
     show _=_;unfold mulR;rw[fJ b.out p hg];simp;rfl
    generalize fpowN S P (ay S P) n=X at*;generalize k:fpowN S P (ay S P) (n+1)=Y at*;have o:=Lib.hid k;clear k;clear d;go_wp2;go_region
    all_goals go_wp2_with(go_at_call 159;refine(gu C S P X (ay S P) _ oO y).mono ?_;rintro e w2 ⟨rfl,r⟩;rw[m.out])
    all_goals go_roundw
    all_goals try(case measure=>simp[intOf];omega)
    all_goals refine⟨n+1,by omega,by go_num,by rw[o.out],?_⟩
    all_goals exact dg.below (dg.drew q.out) r
   ·obtain rfl:n=a:=oO;obtain⟨O,Q,T,U,V⟩:=dg.res hid.out;have s:=Lib.hid (dg.oZ b.out c.out hid.out);clear d;go_wp2;refine bodyPost_ret (v:= .agg #[.int .i64 C,.int .i64 S,.slice (some ⟨(w1.heap.size+1+1),0,none⟩) n n,.slice (some ⟨(w1.heap.size+1),0,none⟩) S S]) ?_ rfl ⟨(w1.heap.size+1+1),(w1.heap.size+1),?_,?_,?_⟩
    ·have t:Tryz.f155.results=#[.cell 2 200]:=oK;simp only[results,t];go_simp
    ·rw[c.out]
    ·exact(((s.out.setCell _ _ oT oT).setCell _ _ oT oT).setCell _ _ oT oT).setCell _ _ oT oT
    ·exact(((hid.out.B.setCell oS _).setCell oS _).setCell oS _).setCell oS _
def iB (w:World) (L:List Int×Int) (e:Ending) (w':World):Prop:=∃v,e= .returned (.tuple #[v,.int .i64 L.2])/\bh w' v L.1/\Below w.heap.size w w'
theorem iB.mk {w w':World} {R:List Int×Int} {v:Value} {L:List Int} {err:Int} (h:R=(L,err)) (a:bh w' v L) (hb:Below w.heap.size w w'):iB w R (.returned (.tuple #[v,.int .i64 err])) w':=by
 subst h;exact⟨v,rfl,a,hb⟩
abbrev nl (xs:List Int):List Nat:=xs.map Int.toNat
theorem px (l:List Nat):nl (zl l)=l:=by
 unfold nl zl;rw[List.map_map];exact(List.map_congr_left λx _=>(rfl:(Int.toNat∘λn:Nat=>(n:Int)) x=x)).trans (List.map_id l)
theorem Ci {c s p:Int} {xs:List Int} (h:ns c s p xs=true):∃(C S P:Nat) (l:List Nat),c=C/\s=S/\p=P/\xs=zl l/\VF C S P/\aA S l/\gZ l/\l.length<=4097:=by
 unfold ns at h;rw[Bool.and_eq_true]at h;obtain⟨C,S,P,rfl,rfl,rfl,a⟩:=pk h.1;obtain⟨l,rfl,b,d,e⟩:=Ht (by have:=a.aT;omega) h.2;exact⟨C,S,P,l,rfl,rfl,rfl,rfl,a,b,d,e⟩
theorem Jp (c s p:Int) (xs ys:List Int):(aW c s p&&[(⟨none,0,0,xs⟩:Sl),⟨none,0,0,ys⟩].all λq=>gI s q.xs)=(ns c s p xs&&ns c s p ys):=by
 unfold ns;simp only[List.all_cons,List.all_nil];cases aW c s p<;>simp
theorem vp (c s p:Int) (A B:Option Addr) (n a m d:Nat) (xs ys:List Int) (b:Nat) (w:World) (f:TypeId) (g:p<=9223372036854775807) (hb:b=w.heap.size)
 (hq:(⟨A,n,a,xs⟩:Sl).R w) (i:(⟨B,m,d,ys⟩:Sl).R w):
 Calls Tryz.prog 154 #[ba c s p,.slice (some ⟨b,0,none⟩) 2 2] (w.alloc (.cells #[.slice A n a,.slice B m d] f)) λe w'=>e= .returned (.bool (ns c s p xs&&ns c s p ys))/\Below w.heap.size w w':=
 (tX c s p (some ⟨b,0,none⟩) 2 2 [⟨A,n,a,xs⟩,⟨B,m,d,ys⟩] _ rfl oO g (qw.two (q:=⟨A,n,a,xs⟩) (r:=⟨B,m,d,ys⟩) f b hb hq i)).mono λe w' ⟨j,k⟩=>⟨j.trans (aN (Jp c s p xs ys)),ab ((Below.refl _ _).alloc (Nat.le_refl _) _) k⟩
theorem rW (c s p:Int) (w:World) (a:p<=9223372036854775807):
 Calls Tryz.prog 154 #[ba c s p,.slice none 0 0] w λe w'=>e= .returned (.bool (aW c s p))/\Below w.heap.size w w':=
 (tX c s p none 0 0 [] w rfl oO a (qw.dD _ _)).mono λe w' ⟨b,d⟩=>⟨b.trans (aN oS),d⟩
end
section
open Fl
section
variable {K : Type} [Fl K]
def dA (a:Nat->K):Nat->K:=λn=>a (n+1)
def conv:(Nat->K)->(Nat->K)->Nat->K
 |a,b,0=>a 0* b 0
 |a,b,n+1=>a 0* b (n+1)+conv (dA a) b n
theorem fS (a b:Nat->K):conv a b 0=a 0* b 0:=rfl
theorem dH (a b:Nat->K) (n:Nat):conv a b (n+1)=a 0* b (n+1)+conv (dA a) b n:=rfl
theorem tQ {a a' b b':Nat->K} {n:Nat} (c:∀k,k<=n->a k=a' k) (hb:∀k,k<=n->b k=b' k):conv a b n=conv a' b' n:=by
 induction n generalizing a a' with
 |zero=>rw[fS,fS,c 0 (Nat.le_refl _),hb 0 (Nat.le_refl _)]
 |succ n d=>
  rw[dH,dH,c 0 oO,hb (n+1) oO,d (a:=dA a) (a':=dA a') (λk e=>c (k+1) oO) (λk e=>hb k oO)]
theorem js {a b:Nat->K} {n:Nat} (c:∀k,a k=0):conv a b n=0:=by
 induction n generalizing a with
 |zero=>rw[fS,c,fU]
 |succ n d=>rw[dH,c,fU,d (a:=dA a) (λk=>c (k+1)),dh]
theorem JD (a b:Nat->K) (n:Nat):conv a b (n+1)=conv a (dA b) n+a (n+1)* b 0:=by
 induction n generalizing a with
 |zero=>rfl
 |succ n c=>
  rw[dH,c,dH a (dA b)];show a 0* b (n+1+1)+(conv (dA a) (dA b) n+a (n+1+1)* b 0)=a 0* b (n+1+1)+conv (dA a) (dA b) n+a (n+1+1)* b 0
  rw[kA]
theorem FW (a b:Nat->K) (n:Nat):conv a b n=conv b a n:=by
 induction n generalizing a with
 |zero=>rw[fS,fS,cO]
 |succ n c=>rw[dH,JD,c (dA a),fm,cO]
theorem xA (a b c:Nat->K) (n:Nat):conv (λk=>a k+b k) c n=conv a c n+conv b c n:=by
 induction n generalizing a b with
 |zero=>rw[fS,fS,fS,gH]
 |succ n d=>
  rw[dH,dH,dH];rw[show conv (dA λk=>a k+b k) c n=conv (dA a) c n+conv (dA b) c n from d (dA a) (dA b),gH]
  ac_rfl
def j6 (r:K):Nat->K:=λn=>if n=0 then r else 0
theorem zt (r:K) (b:Nat->K) (n:Nat):conv (j6 r) b n=r* b n:=by
 cases n with
 |zero=>rfl
 |succ n=>
  rw[dH,js (a:=dA (j6 r)) (λk=>rfl),bJ];rfl
def gP (d:Nat) (a:Nat->K):Prop:=∀i,d<=i->a i=0
theorem gP.mono {d e:Nat} {a:Nat->K} (h:gP d a) (c:d<=e):gP e a:=λi b=>h i oO
theorem gP.tl {d:Nat} {a:Nat->K} (h:gP (d+1) a):gP d (dA a):=λi b=>h (i+1) oO
theorem gP.all {a:Nat->K} (h:gP 0 a) (k:Nat):a k=0:=h k (Nat.zero_le _)
theorem Lu {a b:Nat->K} {d e:Nat} (c:gP (d+1) a) (hb:gP (e+1) b):conv a b (d+e)=a d* b e:=by
 induction d generalizing a with
 |zero=>
  rw[Nat.zero_add];cases e with
  |zero=>rfl
  |succ e=>rw[dH,js c.tl.all,bJ]
 |succ d f=>
  rw[show d+1+e=(d+e)+1 from by omega,dH,hb _ oO,cu,dh,f c.tl];rfl
def cF (x:K):(Nat->K)->Nat->K
 |_,0=>0
 |f,n+1=>f 0+x* cF x (dA f) n
theorem da (x:K) (f:Nat->K) (n:Nat):cF x f (n+1)=f 0+x* cF x (dA f) n:=rfl
theorem nS {x:K} {f g:Nat->K} {n:Nat} (h:∀i,i<n->f i=g i):cF x f n=cF x g n:=by
 induction n generalizing f g with
 |zero=>rfl
 |succ n a=>rw[da,da,h 0 oO,a (f:=dA f) (g:=dA g) (λi b=>h (i+1) oO)]
theorem pH {x:K} {f:Nat->K} (h:∀i,f i=0) (n:Nat):cF x f n=0:=by
 induction n generalizing f with
 |zero=>rfl
 |succ n a=>rw[da,h,a (f:=dA f) (λi=>h (i+1)),cu,bJ]
theorem j9 {x:K} {f:Nat->K} {n m:Nat} (h:gP n f) (b:n<=m):cF x f m=cF x f n:=by
 induction n generalizing f m with
 |zero=>exact pH h.all m
 |succ n a=>
  obtain⟨m,rfl⟩:∃k,m=k+1:=⟨m-1,by omega⟩;rw[da,da,a h.tl oO]
theorem rS (x:K) (f g:Nat->K) (n:Nat):cF x (λk=>f k+g k) n=cF x f n+cF x g n:=by
 induction n generalizing f g with
 |zero=>exact(dh _).symm
 |succ n a=>
  rw[da,da,da,show cF x (dA λk=>f k+g k) n=cF x (dA f) n+cF x (dA g) n from a (dA f) (dA g),jm]
  ac_rfl
theorem s8 (x r:K) (f:Nat->K) (n:Nat):cF x (λk=>r* f k) n=r* cF x f n:=by
 induction n generalizing f with
 |zero=>exact(cu _).symm
 |succ n a=>
  rw[da,da,show cF x (dA λk=>r* f k) n=r* cF x (dA f) n from a (dA f),jm]
  ac_rfl
theorem JY (x:K) (f:Nat->K) (n:Nat):cF x (λk=>-f k) n=-cF x f n:=by
 apply fG (a:=cF x f n);rw[<-rS,eR];exact pH (λk=>eR _) n
theorem vx (x:K) (f g:Nat->K) (n:Nat):cF x (λk=>f k-g k) n=cF x f n-cF x g n:=by
 rw[show cF x (λk=>f k-g k) n=cF x (λk=>f k+-g k) n from rfl,rS x f (λk=>-g k),JY];rfl
theorem GD {x:K} {a b:Nat->K} {d e:Nat} (c:gP d a) (hb:gP e b):cF x (conv a b) (d+e)=cF x a d* cF x b e:=by
 induction d generalizing a with
 |zero=>rw[show cF x a 0=0 from rfl,fU];exact pH (λi=>js c.all) _
 |succ d f=>
  rw[show d+1+e=(d+e)+1 from by omega,da,da];have e1:cF x (dA (conv a b)) (d+e)=a 0* cF x (dA b) (d+e)+cF x (conv (dA a) b) (d+e):=by
   rw[<-s8,<-rS];rfl
  have e2:cF x b e=b 0+x* cF x (dA b) (d+e):=by
   rw[<-da];exact(j9 hb oO).symm
  rw[e1,f c.tl,fS,gH,jm,e2,jm];simp only[jm]
  ac_rfl
theorem BZ (x:K) (f:Nat->K) (n:Nat):cF x f (n+1)=cF x f n+f n* x^n:=by
 induction n generalizing f with
 |zero=>rw[da];show f 0+x* 0=0+f 0* x^0;rw[cu,ig,jU,fm]
 |succ n a=>
  rw[da,a (dA f),da x f n,jm,dz];show f 0+(x* cF x (dA f) n+x* (f (n+1)* x^n))=f 0+x* cF x (dA f) n+f (n+1)* (x^n* x)
  ac_rfl
theorem Gu (x:K) (f:Nat->K) (n:Nat):ev x ((List.range n).map f)=cF x f n:=by
 induction n generalizing f with
 |zero=>rfl
 |succ n a=>
  rw[List.range_succ_eq_map,List.map_cons,List.map_map,da,<-a (dA f)];rfl
theorem DV {a:Nat->K} {n:Nat} (h:gP n a) (k:∃i,a i≠0):∃d,d<n/\a d≠0/\gP (d+1) a:=by
 induction n with
 |zero=>obtain⟨i,b⟩:=k;exact absurd (h.all i) b
 |succ n f=>
  by_cases c:a n=0
  ·obtain⟨d,l,g,j⟩:=f (λi b=>by
    by_cases e:i=n
    ·rw[e];exact c
    ·exact h i oO)
   exact⟨d,by omega,g,j⟩
  ·exact⟨n,by omega,c,h⟩
theorem Bc {f:Nat->K} {n:Nat} (a:gP n f) (l:List K) (hl:l.Nodup) (hn:n<=l.length) (b:∀x∈l,cF x f n=0) (i:Nat):f i=0:=by
 apply Classical.byContradiction;intro c;obtain⟨d,j,e,hs⟩:=DV a ⟨i,c⟩
 have:=yp ((List.range (d+1)).map f) (f d) (by rw[List.range_succ];simp) e l hl (λx g=>by
  rw[Gu];have:=b x g;rw[j9 hs oO]at this
  exact this)
 simp at this;omega
def LJ (n:Nat) (a:K):K:=match n with
 |0=>0
 |n+1=>LJ n a+a
def sh (a:Nat->K):Nat->K
 |0=>0
 |n+1=>a n
def iu (f:Nat->K):Nat->K
 |0=>0
 |n+1=>iu f n+f n
theorem Dn (f:Nat->K) (n:Nat):iu f (n+1)=f 0+iu (dA f) n:=by
 induction n with
 |zero=>show(0:K)+f 0=f 0+0;rw[fm]
 |succ n a=>show iu f (n+1)+f (n+1)=f 0+(iu (dA f) n+dA f n);rw[a,kA];rfl
theorem pZ {f g:Nat->K} {n:Nat} (h:∀k,k<n->f k=g k):iu f n=iu g n:=by
 induction n with
 |zero=>rfl
 |succ n a=>show iu f n+f n=iu g n+g n;rw[a λk b=>h k oO,h n oO]
theorem zj {f:Nat->K} {n m:Nat} (h:∀k,n<=k->k<m->f k=0) (c:n<=m):iu f m=iu f n:=by
 induction m with
 |zero=>rw[show n=0 from by omega]
 |succ m a=>
  by_cases e:n=m+1
  ·rw[e]
  ·show iu f m+f m=_;rw[h m oO oO,bJ,a (λk b d=>h k b oO) oO]
theorem Hh (a b:Nat->K) (n:Nat):conv a b n=iu (λk=>a k* b (n-k)) (n+1):=by
 induction n generalizing a with
 |zero=>exact(dh _).symm
 |succ n c=>
  rw[Dn,dH,c];congr 1;apply pZ;intro k d;show a (k+1)* b (n-k)=a (k+1)* b (n+1-(k+1));rw[show n+1-(k+1)=n-k from by omega]
end
end
end Go.Proofs.YtmnlkganmgcpbaaGreatDoor
