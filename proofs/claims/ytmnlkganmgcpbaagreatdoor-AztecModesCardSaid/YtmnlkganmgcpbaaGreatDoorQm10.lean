import Derived.Test.YtmnlkganmgcpbaaGreatDoorQm9
import Derived.Deep.OwnRows
set_option maxRecDepth 100000
set_option maxHeartbeats 4000000
set_option linter.unusedVariables false
set_option linter.unusedSectionVars false
set_option linter.unusedSimpArgs false
namespace Go.Proofs.YtmnlkganmgcpbaaGreatDoor
section
open Go.RowKit
def hornN (s p x:Nat):List Nat->Nat
 |[]=>0
 |c::t=>aT s p (au s p (hornN s p x t) x) c
theorem gW {c s p:Nat} (h:VF c s p) (x:Nat) (l:List Nat) (hl:∀y∈l,y<s):hornN s p x l<s:=by
 induction l with
 |nil=>have:=h.aG;unfold hornN;omega
 |cons a t b=>exact ja h _ _ (aO h _ _) (hl a oS)
theorem uQ (s p x:Nat) (l:List Nat) (m:Nat) (a:m<l.length):hornN s p x (l.drop m)=aT s p (au s p (hornN s p x (l.drop (m+1))) x) (l.getD m 0):=by
 rw[List.drop_eq_getElem_cons a];show aT s p (au s p (hornN s p x (l.drop (m+1))) x) l[m]=_;simp[List.getD,a]
theorem ek {s:Nat} {l:List Nat} (h:aj s l):∀y∈l,y<s:=by
 intro y a;obtain⟨i,b,rfl⟩:=List.getElem_of_mem a;have:=h i;simpa[List.getD,b]using this
abbrev gR (C S a bl:Nat):List Value:=[.int .i64 C,.int .i64 S,.slice (some ⟨a,0,none⟩) (S-1) (S-1),.slice (some ⟨bl,0,none⟩) S S]
theorem dT {W:World} {b C S a bl:Nat} (h:an W b (gR C S a bl)):W.cell? ⟨b,0,none⟩=some (.int .i64 C)/\W.cell? ⟨b,1,none⟩=some (.int .i64 S)/\W.cell? ⟨b,2,none⟩=some (.slice (some ⟨a,0,none⟩) (S-1) (S-1))/\W.cell? ⟨b,3,none⟩=some (.slice (some ⟨bl,0,none⟩) S S):=
 ⟨h.2 0 oS,h.2 1 oS,h.2 2 oS,h.2 3 oS⟩
def dr (l:List Nat):Array Value:=(l.map λn:Nat=>Value.int .i64 n).toArray
theorem fj (l:List Nat) (i:Nat):(dr l)[i]?=(l[i]?).map λn:Nat=>Value.int .i64 n:=by
 unfold dr;simp
theorem lu (l:List Nat) (i v:Nat):(dr l).setIfInBounds i (.int .i64 v)=dr (l.set i v):=by
 unfold dr;apply Array.ext';simp[List.map_set]
theorem jF (n:Nat):madeCells #[Value.int .i64 0] n=dr (List.replicate n 0):=by
 apply Array.ext';rw[toList_madeCells_one];unfold dr;simp
abbrev pw (C S P:Nat):Obj:= .cells #[.int .i64 C,.int .i64 S,.int .i64 P] 89
abbrev zq:Obj:= .cells #[.int .i64 0,.int .i64 0,.slice none 0 0,.slice none 0 0] 200
abbrev MR (C S a b bl:Nat):Obj:= .cells #[.int .i64 C,.int .i64 S,.slice (some ⟨b,0,none⟩) a a,.slice (some ⟨bl,0,none⟩) S S] 200
structure dh (w wr:World) (C S P T n be bl a:Nat):Prop where
 B:Below w.heap.size w wr
 he:w.heap.size+1<be
 hl:w.heap.size+1<bl
 hs:w.heap.size+1<a
 n1:be≠bl
 n2:be≠a
 n3:bl≠a
 F:wr.heap[w.heap.size]?=some (pw C S P)
 R:wr.heap[w.heap.size+1]?=some zq
 E:wr.heap[be]?=some (.cells (dr (jm S P n)) 3)
 L:wr.heap[bl]?=some (.cells (dr (kD S P n)) 3)
 A:wr.heap[a]?=some (MR C S T be bl)
theorem dh.below {w wr b:World} {C S P a n c bl d:Nat} (h:dh w wr C S P a n c bl d) (hb:Below wr.heap.size wr b):dh w b C S P a n c bl d:=
 ⟨aa h.B hb,h.he,h.hl,h.hs,h.n1,h.n2,h.n3,(hb.block _ (ar h.F)).trans h.F,(hb.block _ (ar h.R)).trans h.R,(hb.block _ (ar h.E)).trans h.E,(hb.block _ (ar h.L)).trans h.L,(hb.block _ (ar h.A)).trans h.A⟩
theorem dh.store {w wr:World} {C S P e n d bl j:Nat} (l:VF C S P) (o:e=S-1) (h:dh w wr C S P e n d bl j) (hn:n<e):
 dh w ((wr.setCell ⟨d,n,none⟩ (.int .i64 ((fpowN S P (aw S P) n:Nat):Int))).setCell ⟨bl,fpowN S P (aw S P) n,none⟩ (.int .i64 (n:Int))) C S P e (n+1) d bl j:=by
 have m:Below w.heap.size w (wr.setCell ⟨d,n,none⟩ (.int .i64 ((fpowN S P (aw S P) n:Nat):Int))):=h.B.setCell (by have:=h.he;simp;omega) _;have f:∀(k:Nat) (v:Value),k≠d->(wr.setCell ⟨d,n,none⟩ v).heap[k]?=wr.heap[k]?:=λk v i=>heap_setCell_other wr ⟨d,n,none⟩ k v i;have g:∀(W:World) (x k:Nat) (v:Value),k≠bl->(W.setCell ⟨bl,x,none⟩ v).heap[k]?=W.heap[k]?:=λW x k v i=>heap_setCell_other W ⟨bl,x,none⟩ k v i;have e1:=heap_setCell_same wr d n _ 3 (.int .i64 ((fpowN S P (aw S P) n:Nat):Int)) h.E;rw[lu,yA l (n:=n) oO]at e1;have e2:=heap_setCell_same (wr.setCell ⟨d,n,none⟩ (.int .i64 ((fpowN S P (aw S P) n:Nat):Int))) bl (fpowN S P (aw S P) n) _ 3 (.int .i64 (n:Int)) ((f bl _ (Ne.symm h.n1)).trans h.L);rw[lu,Ad l oO]at e2;have a:=h.he;have b:=h.hl;have c:=h.hs
 exact⟨m.setCell oT _,h.he,h.hl,h.hs,h.n1,h.n2,h.n3,
  ((g _ _ _ _ oO).trans (f _ _ oO)).trans h.F,((g _ _ _ _ oO).trans (f _ _ oO)).trans h.R,
  (g _ _ _ _ h.n1).trans e1,e2,((g _ _ _ _ (Ne.symm h.n3)).trans (f _ _ (Ne.symm h.n2))).trans h.A⟩
theorem dh.pG {w wr:World} {C S P a c bl f:Nat} (b:VF C S P) (g:a=S-1) (h:dh w wr C S P a a c bl f):dg wr S P c bl:=by
 subst g;refine⟨ar h.E,ar h.L,λi d=>?_,λx e j=>?_⟩
 ·rw[cell_of_row _ _ _ _ _ _ h.E,fj];have:=zv b d;rw[<-vm b]at this;rw[<-this];unfold jm;simp[List.getD,d]
 ·rw[cell_of_row _ _ _ _ _ _ h.L,fj];have:=Au b e j;rw[<-this];unfold kD;simp[List.getD,e]
def ba (w:World) (b:Nat) (l:List Nat):Prop:=b<w.heap.size/\∀i,i<l.length->w.cell? ⟨b,i,none⟩=some (.int .i64 ((l.getD i 0:Nat):Int))/\w.frozen? ⟨b,i,none⟩=false
theorem ba.below {W a:World} {b:Nat} {l:List Nat} (h:ba W b l) (hb:Below W.heap.size W a):ba a b l:=
 ⟨Nat.lt_of_lt_of_le h.1 hb.size,λi c=>⟨(hb.cell h.1).trans (h.2 i c).1,(hb.frozen h.1).trans (h.2 i c).2⟩⟩
theorem ba.set {W:World} {b:Nat} {l:List Nat} (h:ba W b l) (i v:Nat):ba (W.setCell ⟨b,i,none⟩ (.int .i64 (v:Int))) b (l.set i v):=by
 refine⟨by simpa using h.1,λj c=>?_⟩;have a:j<l.length:=by simpa using c
 refine⟨?_,by rw[World.frozen?_setCell];exact(h.2 j a).2⟩;by_cases e:i=j
 ·subst e;rw[World.cell?_setCell_same W _ _ (h.2 i a).1];simp[List.getD,a]
 ·rw[World.cell?_setCell_other W _ _ _ (λe2=>e (by injection e2))];rw[(h.2 j a).1];simp[List.getD,List.getElem?_set_ne e]
theorem ba.other {W:World} {b:Nat} {l:List Nat} (h:ba W b l) (p:Addr) (u:Value) (c:b≠p.block):ba (W.setCell p u) b l:=by
 refine⟨by simpa using h.1,λj a=>⟨?_,by rw[World.frozen?_setCell];exact(h.2 j a).2⟩⟩;rw[World.cell?_setCell_other W _ _ _ (λe=>c (by rw[e]))];exact(h.2 j a).1
theorem ba.new (W:World) (b:Nat) (l:List Nat) (t:TypeId) (hb:b=W.heap.size):ba (W.alloc (.cells (dr l) t)) b l:=by
 have a:(W.alloc (.cells (dr l) t)).heap[b]?=some (.cells (dr l) t):=by
  rw[hb];exact heap_alloc_new _ _
 refine⟨ar a,λi c=>⟨?_,frozen_of_row _ _ _ _ _ a⟩⟩;rw[cell_of_row _ _ _ _ _ _ a,fj];simp[List.getD,c]
theorem ba.made (W:World) (b n:Nat) (t:TypeId) (hb:b=W.heap.size):ba (W.alloc (.cells (madeCells #[Value.int .i64 0] n) t)) b (List.replicate n 0):=by
 have a:(W.alloc (.cells (madeCells #[Value.int .i64 0] n) t)).heap[b]?=some (.cells (dr (List.replicate n 0)) t):=by
  rw[hb,<-jF];exact heap_alloc_new _ _
 refine⟨ar a,λi c=>⟨?_,frozen_of_row _ _ _ _ _ a⟩⟩;rw[cell_of_row _ _ _ _ _ _ a,fj];simp at c;simp[List.getD,c]
theorem ba.rd {W:World} {b:Nat} {l:List Nat} (h:ba W b l):RD W (some ⟨b,0,none⟩) (zl l):=λhn=>by
 refine⟨_,rfl,h.1,λj a=>?_⟩;rw[add_plain,Nat.zero_add,bw];exact(h.2 j (by rw[ak]at a;exact a)).1
theorem ba.ints {W:World} {b c n:Nat} {l:List Nat} (h:ba W b l) (hn:n=l.length) (hc:n<=c) (a:c<=maxLen):aq W (.slice (some ⟨b,0,none⟩) n c) (zl l):=
 ⟨_,c,by rw[ak,hn],by rw[ak,<-hn];exact hc,a,h.rd⟩
theorem ba.bK {W:World} {base g:Nat} {e:TypeId} {n:Nat} {c:Nat} {l:List Nat} (h:W.ownsRow base e 1 (.slice (some ⟨g,0,none⟩) n c) n ((zl l).map (Value.int .i64))) (hn:0<n):ba W g l:=by
 have hl:l.length=n:=by have:=h.1;simpa[ak]using this
 obtain⟨b,cap,d,_,m⟩:=h.form hn;have:b=g:=by injection d with a;injection a with a;injection a with a;exact a.symm
 subst this;refine⟨m,λi f=>⟨?_,?_⟩⟩
 ·have:=h.cells (g:=b) rfl i (.int .i64 ((l.getD i 0:Nat):Int)) (by unfold zl;simp[List.getD,f]);rw[add_plain,Nat.zero_add]at this;exact this
 ·rcases h.2 with⟨a,j⟩|⟨o,q,p,a,j,k,_⟩
  ·cases a
  ·injection a with a;injection a with a;injection a with a;subst a;exact frozen_of_row _ _ _ _ _ k
structure fC (w wr:World) (a:List Value) (l:List Nat):Prop where
 B:Below w.heap.size w wr
 X:an wr w.heap.size a
 O:ba wr (w.heap.size+1) l
theorem fC.below {w wr W:World} {a:List Value} {l:List Nat} (h:fC w wr a l) (hb:Below wr.heap.size wr W):fC w W a l:=⟨aa h.B hb,h.X.below hb,h.O.below hb⟩
theorem fC.set {w wr:World} {a:List Value} {l:List Nat} (h:fC w wr a l) (i v:Nat):fC w (wr.setCell ⟨w.heap.size+1,i,none⟩ (.int .i64 (v:Int))) a (l.set i v):=
 ⟨h.B.setCell oS _,h.X.other _ _ oS,h.O.set i v⟩
theorem fC.start (w:World) (C S a bl n:Nat) (t:TypeId):fC w ((w.alloc (kM C S a bl)).alloc (.cells (madeCells #[Value.int .i64 0] n) t)) (gR C S a bl) (List.replicate n 0):=
 ⟨((Below.refl _ _).alloc (Nat.le_refl _) _).alloc oS _,(an.new _ _ _ _ rfl).alloc _,ba.made _ _ _ _ oS⟩
theorem fC.LI (w:World) (C S a bl:Nat) (l:List Nat) (t:TypeId):fC w ((w.alloc (kM C S a bl)).alloc (.cells (dr l) t)) (gR C S a bl) l:=
 ⟨((Below.refl _ _).alloc (Nat.le_refl _) _).alloc oS _,(an.new _ _ _ _ rfl).alloc _,ba.new _ _ _ _ oS⟩
def subRow (s p c:Nat) (b r:List Nat) (i:Nat):Nat->List Nat
 |0=>r
 |j+1=>(subRow s p c b r i j).set (i+j) (aM s p ((subRow s p c b r i j).getD (i+j) 0) (au s p c (b.getD j 0)))
def rL (s p:Nat) (a b:List Nat) (M:Nat):Nat->List Nat
 |0=>a
 |k+1=>subRow s p (au s p ((rL s p a b M k).getD (M-1-k+(b.length-1)) 0) (bE s p (b.getD (b.length-1) 0))) b (rL s p a b M k) (M-1-k) b.length
def cL (s p:Nat) (a b:List Nat) (M k:Nat):Nat:=au s p ((rL s p a b M k).getD (M-1-k+(b.length-1)) 0) (bE s p (b.getD (b.length-1) 0))
def qL (s p:Nat) (a b:List Nat) (M d:Nat):Nat->List Nat
 |0=>List.replicate d 0
 |k+1=>(qL s p a b M d k).set (M-1-k) (cL s p a b M k)
def cI (a b:List Nat):Nat:=a.length-(b.length-1)
def lI (s p:Nat) (a b:List Nat):List Nat:=qL s p a b (cI a b) (cI a b) (cI a b)
def eK (s p:Nat) (a b:List Nat):List Nat:=dJ (rL s p a b (cI a b) (cI a b))
theorem mZ (s p c:Nat) (b r:List Nat) (i j:Nat):(subRow s p c b r i j).length=r.length:=by
 induction j with
 |zero=>rfl
 |succ j a=>unfold subRow;rw[List.length_set,a]
theorem sj (s p:Nat) (a b:List Nat) (M k:Nat):(rL s p a b M k).length=a.length:=by
 induction k with
 |zero=>rfl
 |succ k d=>unfold rL;rw[mZ,d]
theorem xR (s p:Nat) (a b:List Nat) (M d k:Nat):(qL s p a b M d k).length=d:=by
 induction k with
 |zero=>simp[qL]
 |succ k e=>unfold qL;rw[List.length_set,e]
theorem mS {s:Nat} {l:List Nat} (h:aj s l) (i v:Nat) (b:v<s):aj s (l.set i v):=by
 intro j;have a:=h j;simp only[List.getD,List.getElem?_set]at a⊢;by_cases e:i=j
 ·subst e;by_cases hl:i<l.length
  ·simp[hl,b]
  ·have:=h i;simp[hl];omega
 ·simp[e];exact a
theorem uW {s n:Nat} (hs:0<s):aj s (List.replicate n 0):=by
 intro j;by_cases h:j<n
 ·simp[List.getD,h,hs]
 ·simp[List.getD,h,hs]
section
variable {c s p : Nat} (h : VF c s p)
include h
theorem sD {d:Nat} {b r:List Nat} (e:aj s r) (i j:Nat):aj s (subRow s p d b r i j):=by
 induction j with
 |zero=>exact e
 |succ j a=>exact mS a _ _ (eI h (a _) (aO h _ _))
theorem vZ {a b:List Nat} (d:aj s a) (M k:Nat):aj s (rL s p a b M k):=by
 induction k with
 |zero=>exact d
 |succ k e=>exact sD h e _ _
end
def eL (s p:Nat) (l:List Nat) (r c:Nat):Nat->List Nat
 |0=>(List.replicate (l.length+1) 0).set 0 c
 |k+1=>((eL s p l r c k).set k (aM s p ((eL s p l r c k).getD k 0) (au s p (l.getD k 0) r))).set (k+1) (l.getD k 0)
def kl (s p:Nat) (l:List Nat) (r c:Nat):List Nat:=eL s p l r c l.length
theorem mI (s p:Nat) (l:List Nat) (r c k:Nat):(eL s p l r c k).length=l.length+1:=by
 induction k with
 |zero=>simp[eL]
 |succ k a=>unfold eL;rw[List.length_set,List.length_set,a]
theorem JY {c s p:Nat} (h:VF c s p) {l:List Nat} (hl:aj s l) {r d:Nat} (e:r<s) (b:d<s) (k:Nat):aj s (eL s p l r d k):=by
 induction k with
 |zero=>exact mS (uW (by have:=h.aG;omega)) _ _ b
 |succ k a=>exact mS (mS a _ _ (eI h (a _) (aO h _ _))) _ _ (hl k)
theorem CC (C S P b bl r c:Nat) (l:List Nat) (A:Option Addr) (N:Nat) (w:World) (j:VF C S P) (hl:aj S l) (m:r<S) (hc:c<S) (hn:l.length<=8193)
 (D:dg w S P b bl) (E:RD w A (zl l)):
 Calls Tryz.prog 191 #[fm C S b bl,.slice A l.length N,.int .i64 r,.int .i64 c] w λe w'=>∃v,e= .returned v/\aq w' v (zl (kl S P l r c))/\Below w.heap.size w w':=by
 obtain⟨a,o⟩:∃a,a=l.length+1:=⟨_,rfl⟩;have a7:=run_make_row' (P:=Tryz.prog) 64 3 (.int .i64 0) 8 Tryz.underlying64 bZ rfl .i64 .i64 a oO oO;have Z:((l.length:Int)+1)=(a:Int):=oO;have q:=Lib.hid j;have O:=Lib.hid hl;have Q:=Lib.hid E;have T:=Lib.hid D;have ab:=Lib.hid m;have B:Hid (∀k,(eL S P l r c k).length=a):=λk=>by rw[mI,o]
 have ac:Hid (∀k,aj S (eL S P l r c k)):=JY j hl m hc;have U:Hid (kl S P l r c=eL S P l r c l.length):=rfl;have V:Hid (eL S P l r c 0=(List.replicate a 0).set 0 c):=by show _=_;rw[o];rfl
 have H:0<a:=oO;have a8:a<=8194:=oO;have a9:l.length<a:=oO;clear j hl E D m hc o;generalize J:l.length=n at*;have F:=Lib.hid J;clear J;have ad:Hid (fC w ((w.alloc (kM C S b bl)).alloc (.cells ((madeCells #[Value.int .i64 0] a).setIfInBounds 0 (.int .i64 (c:Int))) 3)) (gR C S b bl) (eL S P l r c 0)):=by
  rw[V.out,jF,lu];exact fC.LI w C S b bl _ _
 have al:Hid ((((w.alloc (kM C S b bl)).alloc (.cells (madeCells #[Value.int .i64 0] a) 3)).cell? ⟨w.heap.size+1,0,none⟩=some (.int .i64 ((0:Nat):Int)))/\((w.alloc (kM C S b bl)).alloc (.cells (madeCells #[Value.int .i64 0] a) 3)).frozen? ⟨w.heap.size+1,0,none⟩=false):=by
  have h:=(fC.start w C S b bl a 3).O.2 0 (by simpa using H);have e:(List.replicate a 0).getD 0 0=0:=by simp[List.getD,H]
  rw[e]at h;exact h
 obtain⟨am,ap⟩:=al.out;go_enter Tryz.func191,Tryz.ntmps191;go_wp2;clear Z am ap;go_loopw [21] (λi wr=>∃k:Nat,k<=n/\i= .int .i64 k/\Hid (fC w wr (gR C S b bl) (eL S P l r c k))) (λi _=>n-(intOf i).toNat)
 case atStart=>exact⟨0,Nat.zero_le _,rfl,ad⟩
 case round=>
  obtain⟨k,a5,rfl,d⟩:=hrel;by_cases av:k<n
  ·obtain⟨a6,rfl,-,K⟩:=(Q.out.below d.out.B) (by rw[ak,F.out];omega);have G:=K k (by rw[ak,F.out];exact av);rw[bw]at G;have X:Hid (l.getD k 0<S):=O.out k;have a0:Hid (eL S P l r c (k+1)=((eL S P l r c k).set k (aM S P ((eL S P l r c k).getD k 0) (au S P (l.getD k 0) r))).set (k+1) (l.getD k 0)):=rfl;have Y:Hid ((eL S P l r c k).getD k 0<S):=ac.out k _;have y:=d.out.O.2 k (by rw[B.out];omega);have z:=d.out.O.2 (k+1) (by rw[B.out];omega);generalize a1:l.getD k 0=x at*;generalize a2:(eL S P l r c k).getD k 0=u at*;generalize a4:(eL S P l r c k).getD (k+1) 0=u2 at*;have g:Hid (∀W,af wr W->(W.cell? ⟨w.heap.size,0,none⟩=some (.int .i64 C)/\W.cell? ⟨w.heap.size,1,none⟩=some (.int .i64 S)/\W.cell? ⟨w.heap.size,2,none⟩=some (.slice (some ⟨b,0,none⟩) (S-1) (S-1))/\W.cell? ⟨w.heap.size,3,none⟩=some (.slice (some ⟨bl,0,none⟩) S S))/\W.cell? ⟨w.heap.size+1,k,none⟩=some (.int .i64 (u:Int))/\W.frozen? ⟨w.heap.size+1,k,none⟩=false/\W.cell? ⟨w.heap.size+1,k+1,none⟩=some (.int .i64 (u2:Int))/\W.frozen? ⟨w.heap.size+1,k+1,none⟩=false):=by
    show∀W,_;intro W f;exact⟨dT (d.out.X.below f),(f.cell d.out.O.1).trans y.1,(f.frozen d.out.O.1).trans y.2,(f.cell d.out.O.1).trans z.1,(f.frozen d.out.O.1).trans z.2⟩
   have bb:k<a:=oO;have bo:k+1<a:=oO;clear a1 a2 a4 K y z;go_wp2;clear G;refine bj (S:=af wr) 13 oK oK (ai (Below.refl _ _)) ?_;simp only[List.take_succ_cons,List.take_zero,List.drop_succ_cons,List.drop_zero]
   repeat refine kO g.out ?_
   refine kX (λW f=>AK C S P b bl x r W q.out X.out ab.out ((T.out.below d.out.B).below f)) ?_
   repeat refine kO g.out ?_
   refine kX (λW f=>Bs C S P b bl u (au S P x r) W q.out Y.out (aO q.out _ _)) ?_
   repeat refine kO g.out ?_
   refine bR ?_;intro t L;have M:=Lib.hid L;clear L;obtain⟨-,bd,be,a3,bf⟩:=g.out t M.out;have bi:∀v,(t.setCell ⟨w.heap.size+1,k,none⟩ v).cell? ⟨w.heap.size+1,k+1,none⟩=some (.int .i64 (u2:Int)):=λv=>(World.cell?_setCell_other t _ _ _ (λe=>by injection e;omega)).trans a3;go_wp2;exact⟨⟨k+1,by omega,by go_num,by rw[a0.out];exact((d.out.below M.out).set _ _).set _ _⟩,by simp[intOf];omega⟩
  ·obtain rfl:k=n:=oO;go_wp2;go_ret;refine⟨_,rfl,?_,d.out.B⟩;rw[U.out];exact d.out.O.ints (B.out _).symm oO oM
theorem Kz {w:World} {base:Nat} {e:TypeId} {v:Value} {n:Nat} {l:List Nat} (h:w.ownsRow base e 1 v n ((zl l).map (Value.int .i64))) (hn:0<n):
 ∃g cap,v= .slice (some ⟨g,0,none⟩) n cap/\base<=g/\n<=cap/\cap<=maxLen/\ba w g l:=by
 rcases h.2 with⟨_,a⟩|⟨g,cap,f,rfl,a,d,b,c,_⟩
 ·omega
 ·exact⟨g,cap,rfl,a,b,c,ba.bK h hn⟩
theorem Ki {w:World} {base:Nat} {e:TypeId} {v:Value} {n:Nat} {l:List Nat} (h:w.ownsRow base e 1 v n ((zl l).map (Value.int .i64))):
 ∃A cap,v= .slice A n cap/\n<=cap/\cap<=maxLen/\RD w A (zl l):=by
 rcases h.2 with⟨rfl,rfl⟩|⟨g,cap,i,rfl,d,f,b,c,_⟩
 ·have hl:l.length=0:=by have:=h.1;simpa[ak]using this
  have:l=[]:=List.eq_nil_of_length_eq_zero hl;subst this;exact⟨none,0,rfl,Nat.le_refl _,by simp[maxLen],RD.dR _ _⟩
 ·rcases Nat.eq_zero_or_pos n with a|a
  ·subst a;have hl:l.length=0:=by have:=h.1;simpa[ak]using this
   have:l=[]:=List.eq_nil_of_length_eq_zero hl;subst this;exact⟨_,cap,rfl,b,c,RD.dR _ _⟩
  ·exact⟨_,cap,rfl,b,c,(ba.bK h a).rd⟩
theorem BB (l:List Nat) (n:Nat) (hn:n=l.length) (A:Option Addr) (a:Nat) (w:World) (c:n<=100000) (b:n<=a) (d:RD w A (zl l)):
 Calls Tryz.prog 116 #[.slice A n a] w λe w'=>∃v,e= .returned v/\aq w' v (zl (dJ l))/\Below w.heap.size w w':=by
 have e:n=(zl l).length:=by rw[ak];exact hn
 rw[e]at c b⊢;rw[<-Jp];exact Ix _ _ _ _ oO b d
structure l6 (w wr:World) (a:List Value) (g q:Nat) (r b:List Nat):Prop where
 B:Below w.heap.size w wr
 X:an wr w.heap.size a
 R:ba wr g r
 Q:ba wr q b
 hg:w.heap.size<g
 hq:w.heap.size<q
 n:g≠q
theorem l6.below {w wr W:World} {a:List Value} {g q:Nat} {r b:List Nat} (h:l6 w wr a g q r b) (hb:Below wr.heap.size wr W):l6 w W a g q r b:=
 ⟨aa h.B hb,h.X.below hb,h.R.below hb,h.Q.below hb,h.hg,h.hq,h.n⟩
theorem l6.MI {w wr:World} {a:List Value} {g q:Nat} {r b:List Nat} (h:l6 w wr a g q r b) (i v:Nat):l6 w (wr.setCell ⟨g,i,none⟩ (.int .i64 (v:Int))) a g q (r.set i v) b:=
 ⟨h.B.setCell (by have:=h.hg;simp;omega) _,h.X.other _ _ (by have:=h.hg;simp;omega),h.R.set i v,h.Q.other _ _ (Ne.symm h.n),h.hg,h.hq,h.n⟩
theorem l6.MC {w wr:World} {a:List Value} {g q:Nat} {r b:List Nat} (h:l6 w wr a g q r b) (i v:Nat):l6 w (wr.setCell ⟨q,i,none⟩ (.int .i64 (v:Int))) a g q r (b.set i v):=
 ⟨h.B.setCell (by have:=h.hq;simp;omega) _,h.X.other _ _ (by have:=h.hq;simp;omega),h.R.other _ _ h.n,h.Q.set i v,h.hg,h.hq,h.n⟩
theorem zA (C S P f bl:Nat) (a b:List Nat) (A B:Option Addr) (v x:Nat) (w:World) (Z:VF C S P) (al:a.length<=8193) (am:b.length<=4097) (ap:1<=b.length) (ab:a.length<=b.length-1)
 (g:RD w A (zl a)):
 Calls Tryz.prog 156 #[fm C S f bl,.slice A a.length v,.slice B b.length x] w λe w'=>∃k o,e= .returned (.tuple #[k,o])/\aq w' k (zl (lI S P a b))/\aq w' o (zl (eK S P a b))/\Below w.heap.size w w':=by
 obtain⟨y,z,M,N,O⟩:=info_parts bZ;have D:=Lib.hid (g.alloc (kM C S f bl));have p:Hid (cI a b=0):=by show _=_;unfold cI;omega
 have E:Hid (lI S P a b=[]):=by show _=_;unfold lI;rw[p.out];rfl
 have F:Hid (eK S P a b=dJ a):=by show _=_;unfold eK;rw[p.out];rfl
 have G:Hid (a.length=(zl a).length):=(ak a).symm;clear g;obtain⟨c,Q⟩:∃c,c=b.length-1:=⟨_,rfl⟩;have av:((b.length:Int)-1)=(c:Int):=oO;have a0:a.length<=c:=oO;generalize hn:a.length=n at*;generalize H:b.length=m at*;have J:=Lib.hid hn;clear hn H Q;go_enter Tryz.func156,Tryz.ntmps156;go_wp2_with(at_builtin;refine da rfl _ _ _ rfl (w.heap.size+1) 3 y _ Tryz.underlying64 z M N O rfl (.slice none 0 0) 0 [] rfl (World.ownsRow_nil _ _ _ _) A n _ (zl a) rfl G.out D.out oO oS ?_;intro v1 q u hg T;have U:Hid (Below w.heap.size w q):=((Below.refl _ _).alloc (Nat.le_refl _) _).grown hg oS (λj d=>by cases d);obtain⟨K,c1,rfl,V,a1,r⟩:=Ki (l:=a) (n:=n) (by simpa using u);have W:=Lib.hid r;clear u hg T r)
 go_loopw [9] (λi wr=>∃j:Int,i= .int .i64 j/\Hid (j<0)/\Hid (wr=q)) (λ_ _=>0)
 case atStart=>exact⟨_,rfl,by show _<_;omega,rfl⟩
 case round=>
  obtain⟨j,rfl,d,L⟩:=hrel;obtain rfl:=L.out;have a2:=d.out;go_wp2_with(go_at_call 116;refine(BB a n J.out.symm K c1 _ oO V W.out).mono ?_;rintro e ac ⟨ad,rfl,s,t⟩;have X:=Lib.hid s;have Y:=Lib.hid t;clear s t)
  go_ret2
  refine⟨_,_,rfl,?_,?_,aa U.out Y.out⟩
  ·rw[E.out];exact aq.dR _
  ·rw[F.out];exact X.out
theorem zF (C S P o bl:Nat) (a b:List Nat) (A B:Option Addr) (b9 ca:Nat) (w:World) (K:VF C S P) (a8:aj S a) (a9:aj S b) (ey:a.length<=8193) (ez:b.length<=4097) (z:1<=b.length) (eq:b.length<=a.length)
 (bb:b.getD (b.length-1) 0≠0) (L:dg w S P o bl) (ap:RD w A (zl a)) (hb:RD w B (zl b)):
 Calls Tryz.prog 156 #[fm C S o bl,.slice A a.length b9,.slice B b.length ca] w λe w'=>∃av a0,e= .returned (.tuple #[av,a0])/\aq w' av (zl (lI S P a b))/\aq w' a0 (zl (eK S P a b))/\Below w.heap.size w w':=by
 obtain⟨cb,ce,cs,cv,cx⟩:=info_parts bZ;obtain⟨M,H⟩:∃M,M=cI a b:=⟨_,rfl⟩;obtain⟨c,Q⟩:∃c,c=b.length-1:=⟨_,rfl⟩;have eh:M=a.length-(b.length-1):=H;have cy:=run_make_row' (P:=Tryz.prog) 64 3 (.int .i64 0) 8 Tryz.underlying64 bZ rfl .i64 .i64 M oO oO;have a1:=Lib.hid (ap.alloc (kM C S o bl));have a2:=Lib.hid hb;have a3:=Lib.hid L;have v:=Lib.hid K;have bd:=Lib.hid a9;have cg:Hid (lI S P a b=qL S P a b M M M):=by show _=_;rw[H];rfl
 have ch:Hid (eK S P a b=dJ (rL S P a b M M)):=by show _=_;rw[H];rfl
 have c2:Hid (∀k,rL S P a b M (k+1)=subRow S P (cL S P a b M k) b (rL S P a b M k) (M-1-k) b.length):=λk=>rfl;have c3:Hid (∀k,cL S P a b M k=au S P ((rL S P a b M k).getD (M-1-k+c) 0) (bE S P (b.getD c 0))):=λk=>by rw[Q];rfl
 have c4:Hid (∀k,qL S P a b M M (k+1)=(qL S P a b M M k).set (M-1-k) (cL S P a b M k)):=λk=>rfl;have be:Hid (∀k,aj S (rL S P a b M k)):=λk=>vZ K a8 _ _;have am:Hid (∀k,(rL S P a b M k).length=a.length):=λk=>sj _ _ _ _ _ _;have b8:Hid (∀k,(qL S P a b M M k).length=M):=λk=>xR _ _ _ _ _ _ _;have a4:Hid (a.length=(zl a).length):=(ak a).symm;have c5:Hid (b.getD c 0≠0):=by rw[Q];exact bb
 have c6:((b.length:Int)-1)=(c:Int):=oO;have c7:((a.length:Int)-(c:Int))=(M:Int):=oO;have bf:(c:Int)<(a.length:Int):=oO;have e0:1<=M:=oO;have e9:M<=8193:=oO;have fb:M+c<=a.length:=oO;have c8:c<b.length:=oO;have fx:b.length<=c+1:=oO;clear ap hb L K a8 a9 bb H eh Q;generalize hn:a.length=n at*;generalize a5:b.length=m at*;have er:=Lib.hid hn;have N:=Lib.hid a5;clear hn a5;go_enter Tryz.func156,Tryz.ntmps156;go_wp2_with(at_builtin;refine da rfl _ _ _ rfl (w.heap.size+1) 3 cb _ Tryz.underlying64 ce cs cv cx rfl (.slice none 0 0) 0 [] rfl (World.ownsRow_nil _ _ _ _) A n _ (zl a) rfl a4.out a1.out oO oS ?_;intro v1 E b5 hg c9;have T:Hid (Below (w.alloc (kM C S o bl)).heap.size (w.alloc (kM C S o bl)) E):=(Below.refl _ _).grown hg (Nat.le_refl _) (λj F=>by cases F);obtain⟨g,c1,rfl,fc,di,fd,b6⟩:=Kz (l:=a) (n:=n) (by simpa using b5) oO;have b7:=Lib.hid b6;clear b5 hg c9 b6)
 clear c6 c7;have dl:Hid (l6 w (E.alloc (.cells (madeCells #[Value.int .i64 0] M) 3)) (gR C S o bl) g E.heap.size a (List.replicate M 0)):=by
  have bf:=T.out.size;simp at bf;exact⟨ah (cQ T.out) _,((an.new _ _ _ _ rfl).below T.out).alloc _,b7.out.below ((Below.refl _ _).alloc (Nat.le_refl _) _),ba.made _ _ _ _ rfl,by omega,by omega,Nat.ne_of_lt b7.out.1⟩
 generalize hq:E.heap.size=q at*;clear hq;clear cy a4 a1;go_loopw [9] (λi wr=>∃(k:Nat) (j:Int),k<=M/\i= .int .i64 j/\Hid (j=(M:Int)-1-k)/\Hid (l6 w wr (gR C S o bl) g q (rL S P a b M k) (qL S P a b M M k))) (λi _=>(intOf i+1).toNat)
 case atStart=>exact⟨0,_,Nat.zero_le _,rfl,by show _=_;omega,dl⟩
 case round=>
  obtain⟨k,j,es,rfl,F,p⟩:=hrel;by_cases fz:k<M
  ·obtain⟨i,U⟩:∃i,i=M-1-k:=⟨_,rfl⟩;have fn:i<M:=oO;have fo:i+c<n:=oO;obtain rfl:j=(i:Int):=by have:=F.out;omega
   have V:=c2.out k;have X:=c4.out k;have Y:=c3.out k;rw[<-U]at V X Y;obtain⟨a6,rfl,-,ds⟩:=a2.out (by rw[ak,N.out];omega);have bi:Hid (∀W,af w W->∀t,t<m->W.cell? (a6.add t)=some (.int .i64 ((b.getD t 0:Nat):Int))):=by
    show∀W,_;intro W d t L;obtain⟨fr,e,_,hc⟩:=a2.out.below d (by rw[ak,N.out];omega);injection e with e;subst e;rw[hc t (by rw[ak,N.out];omega),bw]
   have bo:=p.out.R.2 (i+c) (by rw[am.out];omega);have Z:=p.out.Q.2 i (by rw[b8.out];omega);have ci:Hid ((rL S P a b M k).getD (i+c) 0<S):=be.out k _;have dv:Hid (b.getD c 0<S):=bd.out c;have el:=Lib.hid (be.out k);have em:=Lib.hid (am.out k);generalize dx:rL S P a b M k=r at*;generalize dy:qL S P a b M M k=ck at*;generalize d0:cL S P a b M k=f at*;generalize ab:r.getD (i+c) 0=u at*;generalize ac:b.getD c 0=a7 at*;generalize d1:ck.getD i 0=co at*;have O:Hid (∀W,af wr W->((W.cell? ⟨w.heap.size,0,none⟩=some (.int .i64 C)/\W.cell? ⟨w.heap.size,1,none⟩=some (.int .i64 S)/\W.cell? ⟨w.heap.size,2,none⟩=some (.slice (some ⟨o,0,none⟩) (S-1) (S-1))/\W.cell? ⟨w.heap.size,3,none⟩=some (.slice (some ⟨bl,0,none⟩) S S))/\W.cell? ⟨g,i+c,none⟩=some (.int .i64 (u:Int))/\W.cell? (a6.add c)=some (.int .i64 (a7:Int)))/\W.cell? ⟨q,i,none⟩=some (.int .i64 (co:Int))/\W.frozen? ⟨q,i,none⟩=false):=by
    show∀W,_;intro W d;refine⟨⟨dT (p.out.X.below d),(d.cell p.out.R.1).trans bo.1,?_⟩,(d.cell p.out.Q.1).trans Z.1,(d.frozen p.out.Q.1).trans Z.2⟩;rw[bi.out W (aa p.out.B d) c c8,ac]
   have d2:=Lib.hid V;have d3:=Lib.hid X;have bq:=Lib.hid Y;have fv:=Lib.hid ac;have d4:=Lib.hid U;clear V X Y ds bo Z dx dy d0 ab ac d1 U;have bs:(0:Int)<=(i:Int)+c:=oO;have bt:(i:Int)+c<(n:Int):=oO;have bv:((i:Int)+c).toNat=i+c:=oO;have ad:IntKind.i64.wrap ((i:Int)+c)=(i:Int)+c:=aE _ oO oO;go_wp2;refine bj (S:=af wr) 12 oK oK (ai (Below.refl _ _)) ?_;simp only[List.take_succ_cons,List.take_zero,List.drop_succ_cons,List.drop_zero]
   repeat refine kO O.out ?_
   refine kX (λW d=>Jt C S P o bl u a7 W v.out ci.out dv.out c5.out ((a3.out.below p.out.B).below d)) ?_
   repeat refine kO O.out ?_
   refine bR ?_;intro G z;have D:=Lib.hid z;clear z;clear ad bv bs bt;rw[<-bq.out];have d5:Hid (f<S):=by rw[bq.out];exact aO v.out _ _
   obtain⟨-,bx,bz⟩:=O.out G D.out;have d6:Hid (l6 w (G.setCell ⟨q,i,none⟩ (.int .i64 (f:Int))) (gR C S o bl) g q r (qL S P a b M M (k+1))):=by
    rw[d3.out];exact(p.out.below D.out).MC i f
   have d7:Hid (∀x,subRow S P f b r i (x+1)=(subRow S P f b r i x).set (i+x) (aM S P ((subRow S P f b r i x).getD (i+x) 0) (au S P f (b.getD x 0)))):=λx=>rfl;have d8:Hid (∀x,aj S (subRow S P f b r i x)):=λx=>sD v.out el.out i x;have d9:Hid (∀x,(subRow S P f b r i x).length=n):=λx=>(mZ _ _ _ _ _ _ _).trans em.out;go_wp2;clear bx bz;generalize G.setCell ⟨q,i,none⟩ (.int .i64 (f:Int))=et at*;go_loopw [52] (λt wr=>∃x:Nat,x<=m/\t= .int .i64 x/\Hid (l6 w wr (gR C S o bl) g q (subRow S P f b r i x) (qL S P a b M M (k+1)))) (λt _=>m-(intOf t).toNat)
   case atStart=>exact⟨0,Nat.zero_le _,rfl,d6⟩
   case round=>
    obtain⟨x,ew,rfl,s⟩:=hrel;by_cases en:x<m
    ·have cp:=bi.out _ s.out.B x en;have cq:Hid (b.getD x 0<S):=bd.out x;have b1:=d7.out x;have ea:Hid ((subRow S P f b r i x).getD (i+x) 0<S):=d8.out x _;have al:=s.out.R.2 (i+x) (by rw[d9.out];omega);generalize ec:b.getD x 0=y at*;generalize ab:(subRow S P f b r i x).getD (i+x) 0=u2 at*;have ed:=Lib.hid b1;have J:Hid (∀W,af wr W->(W.cell? ⟨w.heap.size,0,none⟩=some (.int .i64 C)/\W.cell? ⟨w.heap.size,1,none⟩=some (.int .i64 S)/\W.cell? ⟨w.heap.size,2,none⟩=some (.slice (some ⟨o,0,none⟩) (S-1) (S-1))/\W.cell? ⟨w.heap.size,3,none⟩=some (.slice (some ⟨bl,0,none⟩) S S))/\W.cell? ⟨g,i+x,none⟩=some (.int .i64 (u2:Int))/\W.frozen? ⟨g,i+x,none⟩=false):=by
      show∀W,_;intro W d;exact⟨dT (s.out.X.below d),(d.cell s.out.R.1).trans al.1,(d.frozen s.out.R.1).trans al.2⟩
     clear ec ab al b1;have bs:(0:Int)<=(i:Int)+x:=oO;have bt:(i:Int)+x<(n:Int):=oO;have bv:((i:Int)+x).toNat=i+x:=oO;have ad:IntKind.i64.wrap ((i:Int)+x)=(i:Int)+x:=aE _ oO oO;go_wp2;clear cp;refine bj (S:=af wr) 17 oK oK (ai (Below.refl _ _)) ?_;simp only[List.take_succ_cons,List.take_zero,List.drop_succ_cons,List.drop_zero]
     repeat refine kO J.out ?_
     refine kX (λW d=>AK C S P o bl f y W v.out d5.out cq.out ((a3.out.below s.out.B).below d)) ?_
     repeat refine kO J.out ?_
     refine kX (λW d=>Bs C S P o bl u2 (au S P f y) W v.out ea.out (aO v.out _ _)) ?_
     repeat refine kO J.out ?_
     refine bR ?_;intro cr z;have b2:=Lib.hid z;clear z;obtain⟨-,bx,bz⟩:=J.out cr b2.out;go_wp2;clear ad;exact⟨⟨x+1,by omega,by go_num,by rw[ed.out];exact(s.out.below b2.out).MI _ _⟩,by simp[intOf];omega⟩
    ·obtain rfl:x=m:=oO;go_wp2;exact⟨⟨k+1,_,by omega,rfl,by have:=d4.out;show _=_;omega,by rw[d2.out];exact s⟩,by simp[intOf]⟩
  ·obtain rfl:k=M:=oO;have fw:j<0:=by have:=F.out;omega
   go_wp2_with(go_at_call 116;refine(BB (rL S P a b k k) n (am.out k).symm _ _ _ oO di p.out.R.rd).mono ?_;rintro e G ⟨ex,rfl,b3,b4⟩;have ef:=Lib.hid b3;have D:=Lib.hid b4;clear b3 b4)
   go_ret2
   refine⟨_,_,rfl,?_,?_,aa p.out.B D.out⟩
   ·rw[cg.out];exact(p.out.Q.ints (b8.out _).symm (Nat.le_refl _) oM).below D.out
   ·rw[ch.out];exact ef.out
theorem ny (c s p:Int) (xs:List Int) (n:Nat) (hn:n=xs.length) (A:Option Addr) (a:Nat) (w:World) (b:n<=9223372036854775807) (d:RD w A xs):
 Calls Tryz.prog 190 #[aN c s p,.slice A n a] w λe w'=>e= .returned (.bool (gB s xs))/\Below w.heap.size w w':=by
 subst hn;exact BR c s p xs A a w b d
def iM (s:Int) (xs:List Int):Bool:=decide (xs.length<=4097)&&(decide (xs.length=0)||!decide (xs.getD (xs.length-1) 0=0))&&gB s xs
structure Sl where
 A:Option Addr
 n:Nat
 c:Nat
 xs:List Int
abbrev Sl.v (q:Sl):Value:= .slice q.A q.n q.c
structure Sl.R (q:Sl) (w:World):Prop where
 hn:q.n=q.xs.length
 hm:q.n<=9223372036854775807
 rd:RD w q.A q.xs
 hc:q.n<=q.c
 oZ:q.c<=maxLen
theorem Sl.R.below {q:Sl} {W a:World} (h:q.R W) (hb:Below W.heap.size W a):q.R a:=⟨h.hn,h.hm,h.rd.below hb,h.hc,h.oZ⟩
theorem Sl.R.ints {q:Sl} {w:World} (h:q.R w):aq w q.v q.xs:=⟨q.A,q.c,by rw[<-h.hn],by rw[<-h.hn];exact h.hc,h.oZ,h.rd⟩
theorem aq.sl {w:World} {v:Value} {xs:List Int} (h:aq w v xs):∃q:Sl,v=q.v/\q.R w/\q.xs=xs:=by
 obtain⟨A,c,rfl,b,a,d⟩:=h;exact⟨⟨A,xs.length,c,xs⟩,rfl,⟨rfl,by unfold maxLen at a;simp only;omega,d,b,a⟩,rfl⟩
instance:Inhabited Sl:=⟨⟨none,0,0,[]⟩⟩
structure ri (w:World) (V:Option Addr) (ps:List Sl):Prop where
 rd:0<ps.length->∃b,V=some ⟨b,0,none⟩/\b<w.heap.size/\∀j,j<ps.length->w.cell? ⟨b,j,none⟩=some (ps.getD j default).v
 el:∀q∈ps,q.R w
theorem ri.below {V:Option Addr} {ps:List Sl} {W a:World} (h:ri W V ps) (hb:Below W.heap.size W a):ri a V ps:=
 ⟨λhn=>by obtain⟨b,e,hl,hc⟩:=h.rd hn;exact⟨b,e,Nat.lt_of_lt_of_le hl hb.size,λj c=>(hb.cell hl).trans (hc j c)⟩,λq hq=>(h.el q hq).below hb⟩
theorem ri.dR (w:World) (V:Option Addr):ri w V []:=⟨λh=>absurd h oS,λq hq=>by cases hq⟩
theorem ri.two {w:World} {q r:Sl} (t:TypeId) (b:Nat) (hb:b=w.heap.size) (h:q.R w) (g:r.R w):ri (w.alloc (.cells #[q.v,r.v] t)) (some ⟨b,0,none⟩) [q,r]:=by
 refine⟨λ_=>⟨b,rfl,by simp;omega,λj a=>?_⟩,λd hq=>?_⟩
 ·have:=(an.new w #[q.v,r.v] t b hb).2 j (by simpa using a);rw[this];have:j=0\/j=1:=by simp at a;omega
  rcases this with rfl|rfl<;>rfl
 ·have c:Below w.heap.size w (w.alloc (.cells #[q.v,r.v] t)):=(Below.refl _ _).alloc (Nat.le_refl _) _;rcases List.mem_cons.1 hq with rfl|hq
  ·exact h.below c
  ·obtain rfl:d=r:=by simpa using hq
   exact g.below c
theorem JM {ps:List Sl} {f:Sl->Bool} {k:Nat} (a:k<ps.length) (h:f (ps.getD k default)=false):ps.all f=false:=by
 rw[List.all_eq_false];refine⟨ps[k],List.getElem_mem a,?_⟩;have e:ps.getD k default=ps[k]:=by simp[List.getD,a]
 rw[e]at h;simpa using h
theorem K0 {ps:List Sl} {f:Sl->Bool} (h:∀j,j<ps.length->f (ps.getD j default)=true):ps.all f=true:=by
 rw[List.all_eq_true];intro q hq;obtain⟨j,a,rfl⟩:=List.getElem_of_mem hq;have:=h j a;simpa[List.getD,a]using this
theorem ri.at_ {w:World} {V:Option Addr} {ps:List Sl} (h:ri w V ps) {k:Nat} (a:k<ps.length):(ps.getD k default).R w:=by
 have e:ps.getD k default=ps[k]:=by simp[List.getD,a]
 rw[e];exact h.el _ (List.getElem_mem a)
theorem Hc {s:Int} {xs:List Int} (h:4097<xs.length):iM s xs=false:=by
 unfold iM;rw[show decide (xs.length<=4097)=false from by simp;omega];rfl
theorem Fm {s:Int} {xs:List Int} (h:1<=xs.length) (a:xs.getD (xs.length-1) 0=0):iM s xs=false:=by
 unfold iM;rw[show decide (xs.length=0)=false from by simp;intro e;rw[e]at h;simp at h,a];simp
theorem xd {s:Int} {xs:List Int} (h:xs.length<=4097) (a:xs.length=0\/xs.getD (xs.length-1) 0≠0):iM s xs=gB s xs:=by
 unfold iM;rw[show decide (xs.length<=4097)=true from by simp;omega];rcases a with a|a
 ·rw[show decide (xs.length=0)=true from by simpa using a];simp
 ·rw[show decide (xs.getD (xs.length-1) 0=0)=false from by simpa using a];simp
abbrev jS (c s p:Int):List Value:=[.int .i64 c,.int .i64 s,.int .i64 p]
abbrev dS (c s p:Int):Obj:= .cells #[.int .i64 c,.int .i64 s,.int .i64 p] 89
theorem eA {W:World} {b:Nat} {c s p:Int} (h:an W b (jS c s p)):W.cell? ⟨b,0,none⟩=some (.int .i64 c)/\W.cell? ⟨b,1,none⟩=some (.int .i64 s)/\W.cell? ⟨b,2,none⟩=some (.int .i64 p):=
 ⟨h.2 0 oS,h.2 1 oS,h.2 2 oS⟩
theorem uP (c s p:Int) (V:Option Addr) (m ad:Nat) (ps:List Sl) (w:World) (N:m=ps.length) (a6:m<=1000) (O:p<=9223372036854775807) (hs:ri w V ps):
 Calls Tryz.prog 154 #[aN c s p,.slice V m ad] w λe w'=>e= .returned (.bool (aW c s p&&ps.all λq=>iM s q.xs))/\Below w.heap.size w w':=by
 have al:Hid (an (w.alloc (dS c s p)) w.heap.size (jS c s p)):=an.new _ _ _ _ rfl;have P:=Lib.hid (hs.below ((Below.refl _ _).alloc (Nat.le_refl _) (dS c s p)));have t:=Lib.hid N;clear N hs;by_cases o:aW c s p=true
 ·have r:=Lib.hid o;clear o;go_enter Tryz.func154,Tryz.ntmps154;go_wp2_with(go_at_call 149;refine(jd c s p _ O).mono ?_;rintro e am ⟨rfl,v⟩;rw[r.out];have G:=Lib.hid v;clear v)
  go_loopw [13] (λi wr=>∃k:Nat,k<=m/\i= .int .i64 k/\Hid (∀j,j<k->iM s (ps.getD j default).xs=true)/\Hid (Below (w.alloc (dS c s p)).heap.size (w.alloc (dS c s p)) wr)) (λi _=>m-(intOf i).toNat)
  case atStart=>exact⟨0,Nat.zero_le _,rfl,λj ap=>by omega,G.out⟩
  case round=>
   obtain⟨k,a3,rfl,hid,g⟩:=hrel;by_cases H:k<m
   ·obtain⟨b,rfl,-,hc⟩:=(P.out.below g.out).rd (by rw[<-t.out];omega);have av:=hc k (by rw[<-t.out];exact H);have E:=Lib.hid ((P.out.below g.out).at_ (k:=k) (by rw[<-t.out];exact H));have a0:Hid (iM s (ps.getD k default).xs=false->ps.all (λq=>iM s q.xs)=false):=λh=>JM (f:=λq=>iM s q.xs) (by rw[<-t.out];exact H) h;obtain⟨a7,a8,a9⟩:=eA (al.out.below g.out);clear hc;generalize y:ps.getD k default=q at*;have a1:=Lib.hid y;clear y;obtain⟨A,n,F,xs⟩:=q;have Z:=E.out.hm;have J:=E.out.hn;have C:Hid (RD wr A xs):=Lib.hid E.out.rd;simp only[Sl.v]at av Z J;have a:=Lib.hid J;clear J;have M:Hid (iM s xs=false->Value.bool false= .bool (aW c s p&&ps.all λq=>iM s q.xs)):=λh=>by rw[r.out,a0.out h];rfl
    have ab:Hid (iM s xs=true->∀j,j<k+1->iM s (ps.getD j default).xs=true):=λh j ap=>by
     by_cases a2:j=k
     ·subst a2;rw[a1.out];exact h
     ·exact hid.out j oO
    by_cases ac:4097<n
    ·have u:=Lib.hid (M.out (Hc (by rw[<-a.out];exact ac)));go_wp2;go_ret;exact⟨congrArg Ending.returned u.out,cQ g.out⟩
    ·have X:n<=4097:=oO;clear ac Z;by_cases Q:n=0
     ·subst Q;have Y:xs=[]:=List.eq_nil_of_length_eq_zero a.out.symm;have d:Hid (gB s xs=true):=by show _=_;rw[Y];rfl
      have K:=Lib.hid (ab.out (by rw[xd (by rw[<-a.out];omega) (.inl a.out.symm)];exact d.out));clear Y;go_wp2_with(go_at_call 190;refine(ny c s p xs 0 a.out A F _ oO C.out).mono ?_;rintro e S ⟨rfl,l⟩;rw[d.out];have z:=Lib.hid l;clear l)
      exact⟨⟨k+1,by omega,by go_num,K.out,aa g.out z.out⟩,by simp[intOf];omega⟩
     ·obtain⟨q,y⟩:∃q,q=n-1:=⟨_,rfl⟩;have bb:(n:Int)-1=(q:Int):=oO;have bd:q<n:=oO;have be:q<=4096:=oO;have bf:1<=n:=oO;have a4:decide ((4097:Int)<(n:Int))=false:=by simp;omega
      have bi:decide ((0:Int)<(n:Int))=true:=by simp;omega
      obtain⟨T,rfl,-,hc⟩:=C.out (by rw[<-a.out];omega);have bo:=hc q (by rw[<-a.out];omega);have L:=Lib.hid X;have U:Hid (xs.getD (xs.length-1) 0=xs.getD q 0):=by show _=_;rw[<-a.out,y]
      clear X Q y;clear hc;generalize xs.getD q 0=x at*;by_cases D:x=0
      ·subst D;have u:=Lib.hid (M.out (Fm (by rw[<-a.out];omega) U.out));go_wp2;go_ret;exact⟨congrArg Ending.returned u.out,cQ g.out⟩
      ·have W:=Lib.hid (xd (s:=s) (xs:=xs) (by rw[<-a.out];exact L.out) (.inr (by rw[U.out];exact D)));have a5:(x==0)=false:=by rw[beq_eq_false_iff_ne];exact D
       clear D;cases B:gB s xs with
       |true=>
        have d:=Lib.hid B;have K:=Lib.hid (ab.out (by rw[W.out];exact d.out));clear B;go_wp2_with(go_at_call 190;refine(ny c s p xs n a.out (some T) F _ (by have:=L.out;omega) C.out).mono ?_;rintro e S ⟨rfl,l⟩;rw[d.out];have z:=Lib.hid l;clear l)
        exact⟨⟨k+1,by omega,by go_num,K.out,aa g.out z.out⟩,by simp[intOf];omega⟩
       |false=>
        have d:=Lib.hid B;have u:=Lib.hid (M.out (by rw[W.out];exact d.out));clear B;go_wp2_with(go_at_call 190;refine(ny c s p xs n a.out (some T) F _ (by have:=L.out;omega) C.out).mono ?_;rintro e S ⟨rfl,l⟩;rw[d.out];have z:=Lib.hid l;clear l)
        go_ret;exact⟨congrArg Ending.returned u.out,cQ (aa g.out z.out)⟩
   ·obtain rfl:k=m:=oO;have d:=Lib.hid (K0 (ps:=ps) (f:=λq=>iM s q.xs) (by rw[<-t.out];exact hid.out));go_wp2;go_ret;exact⟨aK (by rw[r.out,d.out];rfl),cQ g.out⟩
 ·have o:aW c s p=false:=by simpa using o
  have r:=Lib.hid o;clear o;go_enter Tryz.func154,Tryz.ntmps154;go_wp2_with(go_at_call 149;refine(jd c s p _ O).mono ?_;rintro e am ⟨rfl,v⟩;rw[r.out];have G:=Lib.hid v;clear v)
  go_ret;exact⟨aK (by rw[r.out];rfl),cQ G.out⟩
theorem zI {S:Nat} {l:List Nat} (h:aj S l):gB (S:Int) (zl l)=true:=by
 refine xE λj a=>?_;rw[bw];have:=h j;omega
theorem CX {S:Nat} {xs:List Int} (b:0<S) (h:gB (S:Int) xs=true):∃l,xs=zl l/\aj S l:=by
 refine⟨xs.map Int.toNat,?_,?_⟩
 ·unfold gB at h;rw[List.all_eq_true]at h;unfold zl;rw[List.map_map];refine(List.map_id xs).symm.trans (List.map_congr_left λx c=>?_);have:=h x c;simp at this;show x=((x.toNat:Nat):Int);omega
 ·intro i;by_cases a:i<xs.length
  ·unfold gB at h;rw[List.all_eq_true]at h;have:=h xs[i] (List.getElem_mem a);simp at this;simp[List.getD,a];omega
  ·simp[List.getD,a,b]
theorem C8 {S:Nat} {l:List Nat} (h:aj S l) (hn:l.length<=4097) (a:cG l):iM (S:Int) (zl l)=true:=by
 rw[xd (by rw[ak];exact hn),zI h];rcases a with rfl|a
 ·exact .inl rfl
 ·right;rw[ak,bw];omega
theorem Jx {S:Nat} {xs:List Int} (d:0<S) (h:iM (S:Int) xs=true):∃l,xs=zl l/\aj S l/\cG l/\l.length<=4097:=by
 have b:=h;unfold iM at b;simp only[Bool.and_eq_true,decide_eq_true_eq,Bool.or_eq_true,Bool.not_eq_true',decide_eq_false_iff_not]at b;obtain⟨⟨c,a⟩,e⟩:=b;obtain⟨l,rfl,hl⟩:=CX d e;refine⟨l,rfl,hl,?_,by rw[ak]at c;exact c⟩;rw[ak,bw]at a;rcases a with a|a
 ·exact .inl (List.eq_nil_of_length_eq_zero a)
 ·exact .inr oO
def nZ (c s p:Int) (xs:List Int):Bool:=aW c s p&&iM s xs
theorem dh.cells {w wr:World} {C S P a n c bl b:Nat} (d:VF C S P) (e:a=S-1) (h:dh w wr C S P a n c bl b):
 (wr.cell? ⟨w.heap.size,0,none⟩=some (.int .i64 C)/\wr.cell? ⟨w.heap.size,1,none⟩=some (.int .i64 S)/\wr.cell? ⟨w.heap.size,2,none⟩=some (.int .i64 P))/\
 (wr.cell? ⟨b,0,none⟩=some (.int .i64 C)/\wr.cell? ⟨b,1,none⟩=some (.int .i64 S)/\wr.cell? ⟨b,2,none⟩=some (.slice (some ⟨c,0,none⟩) a a)/\wr.cell? ⟨b,3,none⟩=some (.slice (some ⟨bl,0,none⟩) S S))/\
 (n<a->(∃u,wr.cell? ⟨c,n,none⟩=some u)/\wr.frozen? ⟨c,n,none⟩=false/\(∃u,wr.cell? ⟨bl,fpowN S P (aw S P) n,none⟩=some u)/\wr.frozen? ⟨bl,fpowN S P (aw S P) n,none⟩=false):=by
 refine⟨⟨?_,?_,?_⟩,⟨?_,?_,?_,?_⟩,λhn=>⟨?_,?_,?_,?_⟩⟩
 ·rw[cell_of_row _ _ _ _ _ _ h.F];rfl
 ·rw[cell_of_row _ _ _ _ _ _ h.F];rfl
 ·rw[cell_of_row _ _ _ _ _ _ h.F];rfl
 ·rw[cell_of_row _ _ _ _ _ _ h.A];rfl
 ·rw[cell_of_row _ _ _ _ _ _ h.A];rfl
 ·rw[cell_of_row _ _ _ _ _ _ h.A];rfl
 ·rw[cell_of_row _ _ _ _ _ _ h.A];rfl
 ·rw[cell_of_row _ _ _ _ _ _ h.E,fj];refine⟨_,Option.map_eq_some_iff.2 ⟨_,List.getElem?_eq_getElem (by unfold jm;simp;omega),rfl⟩⟩
 ·exact frozen_of_row _ _ _ _ _ h.E
 ·rw[cell_of_row _ _ _ _ _ _ h.L,fj];refine⟨_,Option.map_eq_some_iff.2 ⟨_,List.getElem?_eq_getElem (by unfold kD;simp;exact ep d n),rfl⟩⟩
 ·exact frozen_of_row _ _ _ _ _ h.L
theorem dg.setCell {W:World} {S P a bl:Nat} (h:dg W S P a bl) (p:Addr) (u:Value) (b:a≠p.block) (c:bl≠p.block):dg (W.setCell p u) S P a bl:=by
 refine⟨by simpa using h.1,by simpa using h.2.1,λi d=>?_,λx f g=>?_⟩
 ·rw[World.cell?_setCell_other W p _ u (λe=>b (by rw[e]))];exact h.2.2.1 i d
 ·rw[World.cell?_setCell_other W p _ u (λe=>c (by rw[e]))];exact h.2.2.2 x f g
theorem cX (W:World) (a b c:Obj):(((W.alloc a).alloc b).alloc c).heap[W.heap.size]?=some a/\(((W.alloc a).alloc b).alloc c).heap[W.heap.size+1]?=some b/\(((W.alloc a).alloc b).alloc c).heap[W.heap.size+1+1]?=some c:=by
 refine⟨?_,?_,?_⟩
 ·exact(Below.heap_alloc _ _ _ oT).trans ((Below.heap_alloc _ _ _ oS).trans (heap_alloc_new W a))
 ·have h:=heap_alloc_new (W.alloc a) b;refine(Below.heap_alloc _ _ _ oS).trans ?_;simpa using h
 ·have h:=heap_alloc_new ((W.alloc a).alloc b) c;simpa using h
theorem dh.drew {w wr:World} {C S P a n b bl c:Nat} (h:dh w wr C S P a n b bl c):dh w wr.drew C S P a n b bl c:=
 ⟨ai h.B,h.he,h.hl,h.hs,h.n1,h.n2,h.n3,h.F,h.R,h.E,h.L,h.A⟩
theorem dh.res {w wr:World} {C S P a n b bl c:Nat} (h:dh w wr C S P a n b bl c):
 wr.cell? ⟨w.heap.size+1,0,none⟩=some (.int .i64 0)/\wr.cell? ⟨w.heap.size+1,1,none⟩=some (.int .i64 0)/\wr.cell? ⟨w.heap.size+1,2,none⟩=some (.slice none 0 0)/\wr.cell? ⟨w.heap.size+1,3,none⟩=some (.slice none 0 0)/\∀k,wr.frozen? ⟨w.heap.size+1,k,none⟩=false:=by
 refine⟨?_,?_,?_,?_,λk=>frozen_of_row _ _ _ _ _ h.R⟩<;>(rw[cell_of_row _ _ _ _ _ _ h.R];rfl)
theorem AI (C S P:Nat) (w:World) (y:VF C S P):
 Calls Tryz.prog 155 #[aN C S P] w λe w'=>∃ad bl,e= .returned (fm C S ad bl)/\dg w' S P ad bl/\Below w.heap.size w w':=by
 have a6:=y.le;have a7:=y.aG;have z:(P:Int)<=9223372036854775807:=y.rl;have hg:=jy y;have RG:Hid (ue C S P=(((aw S P:Nat):Int),0)):=by
  show _=_;unfold ue;rw[j5 y,if_pos rfl];simp
 obtain⟨b,ac⟩:∃b,b=S-1:=⟨S-1,rfl⟩;have a8:1<=b:=oO;have a9:=run_make_row' (P:=Tryz.prog) 64 3 (.int .i64 0) 8 Tryz.underlying64 bZ rfl .i64 .i64 b oO oO;have bb:=run_make_row' (P:=Tryz.prog) 64 3 (.int .i64 0) 8 Tryz.underlying64 bZ rfl .i64 .i64 S oO oO;have bd:IntKind.i64.wrap ((S:Int)-1)=(b:Int):=by rw[aE _ oO oO];omega
 have bf:((S:Int)-1)=(b:Int):=oO;have c:=Lib.hid y;have d:=Lib.hid ac;have B:Hid (dr (jm S P 0)=madeCells #[Value.int .i64 0] b):=by show _=_;rw[jF,wJ y,ac]
 have D:Hid (dr (kD S P 0)=madeCells #[Value.int .i64 0] S):=by show _=_;rw[jF,xO y]
 clear ac y;have a3:Hid (∀a:World,Below ((w.alloc (pw C S P)).alloc zq).heap.size ((w.alloc (pw C S P)).alloc zq) a->w.heap.size+1<a.heap.size/\a.heap[w.heap.size]?=some (pw C S P)/\a.heap[w.heap.size+1]?=some zq/\Below w.heap.size w a):=by
  intro a A;have hs:=A.size;simp at hs;refine⟨by omega,(A.block _ oT).trans ?_,(A.block _ oS).trans ?_,((Below.refl _ _).alloc (Nat.le_refl _) _|>.alloc oS _).trans (A.mono oT)⟩
  ·exact(Below.heap_alloc _ _ _ oS).trans (heap_alloc_new w _)
  ·have:=heap_alloc_new (w.alloc (pw C S P)) zq;simpa using this
 go_enter Tryz.func155,Tryz.ntmps155
 go_wp2_with(
  go_at_call 158;refine(re C S P _ oO z).mono ?_;rintro e a ⟨rfl,A⟩;rw[RG.out]
  have j:=Lib.hid (a3.out a A);have be:w.heap.size+1<a.heap.size:=j.out.1;have ap:w.heap.size<a.heap.size:=oO;have al:a.cell? ⟨w.heap.size,0,none⟩=some (.int .i64 C):=(cell_of_row _ _ _ _ _ _ j.out.2.1).trans rfl;have am:a.cell? ⟨w.heap.size,1,none⟩=some (.int .i64 S):=(cell_of_row _ _ _ _ _ _ j.out.2.1).trans rfl;have av:∀g,(a.alloc g).cell? ⟨w.heap.size,0,none⟩=some (.int .i64 C):=λg=>(World.cell?_alloc_lt _ _ _ (by exact ap)).trans al;have a0:∀g m,((a.alloc g).alloc m).cell? ⟨w.heap.size,0,none⟩=some (.int .i64 C):=λg m=>(World.cell?_alloc_lt _ _ _ oT).trans (av g);have a4:∀g m ab,(((a.alloc g).alloc m).alloc ab).cell? ⟨w.heap.size,0,none⟩=some (.int .i64 C):=λg m ab=>(World.cell?_alloc_lt _ _ _ oT).trans (a0 g m);have a1:∀g,(a.alloc g).cell? ⟨w.heap.size,1,none⟩=some (.int .i64 S):=λg=>(World.cell?_alloc_lt _ _ _ (by exact ap)).trans am;have a2:∀g m,((a.alloc g).alloc m).cell? ⟨w.heap.size,1,none⟩=some (.int .i64 S):=λg m=>(World.cell?_alloc_lt _ _ _ oT).trans (a1 g);have a5:∀g m ab,(((a.alloc g).alloc m).alloc ab).cell? ⟨w.heap.size,1,none⟩=some (.int .i64 S):=λg m ab=>(World.cell?_alloc_lt _ _ _ oT).trans (a2 g m)
  clear A)
 go_region
 all_goals clear al am av a0 a4 a1 a2 a5
 all_goals go_wp2
 ·go_loopw [6,28] (λx i wr=>∃n:Nat,n<=b/\i= .int .i64 (n:Nat)/\x= .int .i64 ((fpowN S P (aw S P) n:Nat):Int)/\Hid (dh w wr C S P b n (a.heap.size) (a.heap.size+1) (a.heap.size+1+1))) (λ_ i _=>b-(intOf i).toNat)
  case atStart=>
   refine⟨0,Nat.zero_le _,rfl,rfl,?_⟩;refine⟨ai (ah (ah (ah j.out.2.2.2 _) _) _),by omega,by omega,by omega,by omega,by omega,by omega,?_,?_,?_,?_,?_⟩
   ·exact(Below.heap_alloc _ _ _ oT).trans ((Below.heap_alloc _ _ _ oT).trans ((Below.heap_alloc _ _ _ oO).trans j.out.2.1))
   ·exact(Below.heap_alloc _ _ _ oT).trans ((Below.heap_alloc _ _ _ oT).trans ((Below.heap_alloc _ _ _ oO).trans j.out.2.2.1))
   ·rw[B.out];exact(cX a _ _ _).1
   ·rw[D.out];exact(cX a _ _ _).2.1
   ·exact(cX a _ _ _).2.2
  case round=>
   obtain⟨n,hn,rfl,rfl,hid⟩:=hrel;obtain⟨⟨E,F,G⟩,⟨H,J,K,L⟩,f⟩:=dh.cells c.out d.out hid.out;by_cases k:n<b
   ·obtain⟨⟨u1,M⟩,N,⟨u2,s3⟩,O⟩:=f k;have q:fpowN S P (aw S P) n<S:=ep c.out n;have r:=Lib.hid (dh.store c.out d.out hid.out k);have o:Hid (mulR C S P (fpowN S P (aw S P) n:Nat) (aw S P:Nat)=(((fpowN S P (aw S P) (n+1):Nat):Int),0)):=by
     show _=_;unfold mulR;rw[gF c.out q hg];simp;rfl
    generalize fpowN S P (aw S P) n=X at*;generalize l:fpowN S P (aw S P) (n+1)=Y at*;have p:=Lib.hid l;clear l;clear f;go_wp2;go_region
    all_goals go_wp2_with(go_at_call 159;refine(ir C S P X (aw S P) _ oO z).mono ?_;rintro e Q ⟨rfl,s⟩;rw[o.out])
    all_goals go_roundw
    all_goals try(case measure=>simp[intOf];omega)
    all_goals refine⟨n+1,by omega,by go_num,by rw[p.out],?_⟩
    all_goals exact dh.below (dh.drew r.out) s
   ·obtain rfl:n=b:=oO;obtain⟨T,U,V,W,Z⟩:=dh.res hid.out;have t:=Lib.hid (dh.pG c.out d.out hid.out);clear f;go_wp2;refine bodyPost_ret (v:= .agg #[.int .i64 C,.int .i64 S,.slice (some ⟨(a.heap.size),0,none⟩) n n,.slice (some ⟨(a.heap.size+1),0,none⟩) S S]) ?_ rfl ⟨(a.heap.size),(a.heap.size+1),?_,?_,?_⟩
    ·have u:Tryz.f155.results=#[.cell 2 200]:=oK;simp only[results,u];go_simp
    ·rw[d.out]
    ·exact(((t.out.setCell _ _ oT oT).setCell _ _ oT oT).setCell _ _ oT oT).setCell _ _ oT oT
    ·exact(((hid.out.B.setCell oS _).setCell oS _).setCell oS _).setCell oS _
 ·go_loopw [6,28] (λx i wr=>∃n:Nat,n<=b/\i= .int .i64 (n:Nat)/\x= .int .i64 ((fpowN S P (aw S P) n:Nat):Int)/\Hid (dh w wr C S P b n (a.heap.size) (a.heap.size+1+1) (a.heap.size+1))) (λ_ i _=>b-(intOf i).toNat)
  case atStart=>
   refine⟨0,Nat.zero_le _,rfl,rfl,?_⟩;refine⟨ai (ah (ah (ah j.out.2.2.2 _) _) _),by omega,by omega,by omega,by omega,by omega,by omega,?_,?_,?_,?_,?_⟩
   ·exact(Below.heap_alloc _ _ _ oT).trans ((Below.heap_alloc _ _ _ oT).trans ((Below.heap_alloc _ _ _ oO).trans j.out.2.1))
   ·exact(Below.heap_alloc _ _ _ oT).trans ((Below.heap_alloc _ _ _ oT).trans ((Below.heap_alloc _ _ _ oO).trans j.out.2.2.1))
   ·rw[B.out];exact(cX a _ _ _).1
   ·rw[D.out];exact(cX a _ _ _).2.2
   ·exact(cX a _ _ _).2.1
  case round=>
   obtain⟨n,hn,rfl,rfl,hid⟩:=hrel;obtain⟨⟨E,F,G⟩,⟨H,J,K,L⟩,f⟩:=dh.cells c.out d.out hid.out;by_cases k:n<b
   ·obtain⟨⟨u1,M⟩,N,⟨u2,s3⟩,O⟩:=f k;have q:fpowN S P (aw S P) n<S:=ep c.out n;have r:=Lib.hid (dh.store c.out d.out hid.out k);have o:Hid (mulR C S P (fpowN S P (aw S P) n:Nat) (aw S P:Nat)=(((fpowN S P (aw S P) (n+1):Nat):Int),0)):=by
     show _=_;unfold mulR;rw[gF c.out q hg];simp;rfl
    generalize fpowN S P (aw S P) n=X at*;generalize l:fpowN S P (aw S P) (n+1)=Y at*;have p:=Lib.hid l;clear l;clear f;go_wp2;go_region
    all_goals go_wp2_with(go_at_call 159;refine(ir C S P X (aw S P) _ oO z).mono ?_;rintro e Q ⟨rfl,s⟩;rw[o.out])
    all_goals go_roundw
    all_goals try(case measure=>simp[intOf];omega)
    all_goals refine⟨n+1,by omega,by go_num,by rw[p.out],?_⟩
    all_goals exact dh.below (dh.drew r.out) s
   ·obtain rfl:n=b:=oO;obtain⟨T,U,V,W,Z⟩:=dh.res hid.out;have t:=Lib.hid (dh.pG c.out d.out hid.out);clear f;go_wp2;refine bodyPost_ret (v:= .agg #[.int .i64 C,.int .i64 S,.slice (some ⟨(a.heap.size),0,none⟩) n n,.slice (some ⟨(a.heap.size+1+1),0,none⟩) S S]) ?_ rfl ⟨(a.heap.size),(a.heap.size+1+1),?_,?_,?_⟩
    ·have u:Tryz.f155.results=#[.cell 2 200]:=oK;simp only[results,u];go_simp
    ·rw[d.out]
    ·exact(((t.out.setCell _ _ oT oT).setCell _ _ oT oT).setCell _ _ oT oT).setCell _ _ oT oT
    ·exact(((hid.out.B.setCell oS _).setCell oS _).setCell oS _).setCell oS _
 ·go_loopw [6,28] (λx i wr=>∃n:Nat,n<=b/\i= .int .i64 (n:Nat)/\x= .int .i64 ((fpowN S P (aw S P) n:Nat):Int)/\Hid (dh w wr C S P b n (a.heap.size+1) (a.heap.size) (a.heap.size+1+1))) (λ_ i _=>b-(intOf i).toNat)
  case atStart=>
   refine⟨0,Nat.zero_le _,rfl,rfl,?_⟩;refine⟨ai (ah (ah (ah j.out.2.2.2 _) _) _),by omega,by omega,by omega,by omega,by omega,by omega,?_,?_,?_,?_,?_⟩
   ·exact(Below.heap_alloc _ _ _ oT).trans ((Below.heap_alloc _ _ _ oT).trans ((Below.heap_alloc _ _ _ oO).trans j.out.2.1))
   ·exact(Below.heap_alloc _ _ _ oT).trans ((Below.heap_alloc _ _ _ oT).trans ((Below.heap_alloc _ _ _ oO).trans j.out.2.2.1))
   ·rw[B.out];exact(cX a _ _ _).2.1
   ·rw[D.out];exact(cX a _ _ _).1
   ·exact(cX a _ _ _).2.2
  case round=>
   obtain⟨n,hn,rfl,rfl,hid⟩:=hrel;obtain⟨⟨E,F,G⟩,⟨H,J,K,L⟩,f⟩:=dh.cells c.out d.out hid.out;by_cases k:n<b
   ·obtain⟨⟨u1,M⟩,N,⟨u2,s3⟩,O⟩:=f k;have q:fpowN S P (aw S P) n<S:=ep c.out n;have r:=Lib.hid (dh.store c.out d.out hid.out k);have o:Hid (mulR C S P (fpowN S P (aw S P) n:Nat) (aw S P:Nat)=(((fpowN S P (aw S P) (n+1):Nat):Int),0)):=by
     show _=_;unfold mulR;rw[gF c.out q hg];simp;rfl
    generalize fpowN S P (aw S P) n=X at*;generalize l:fpowN S P (aw S P) (n+1)=Y at*;have p:=Lib.hid l;clear l;clear f;go_wp2;go_region
    all_goals go_wp2_with(go_at_call 159;refine(ir C S P X (aw S P) _ oO z).mono ?_;rintro e Q ⟨rfl,s⟩;rw[o.out])
    all_goals go_roundw
    all_goals try(case measure=>simp[intOf];omega)
    all_goals refine⟨n+1,by omega,by go_num,by rw[p.out],?_⟩
    all_goals exact dh.below (dh.drew r.out) s
   ·obtain rfl:n=b:=oO;obtain⟨T,U,V,W,Z⟩:=dh.res hid.out;have t:=Lib.hid (dh.pG c.out d.out hid.out);clear f;go_wp2;refine bodyPost_ret (v:= .agg #[.int .i64 C,.int .i64 S,.slice (some ⟨(a.heap.size+1),0,none⟩) n n,.slice (some ⟨(a.heap.size),0,none⟩) S S]) ?_ rfl ⟨(a.heap.size+1),(a.heap.size),?_,?_,?_⟩
    ·have u:Tryz.f155.results=#[.cell 2 200]:=oK;simp only[results,u];go_simp
    ·rw[d.out]
    ·exact(((t.out.setCell _ _ oT oT).setCell _ _ oT oT).setCell _ _ oT oT).setCell _ _ oT oT
    ·exact(((hid.out.B.setCell oS _).setCell oS _).setCell oS _).setCell oS _
 ·go_loopw [6,28] (λx i wr=>∃n:Nat,n<=b/\i= .int .i64 (n:Nat)/\x= .int .i64 ((fpowN S P (aw S P) n:Nat):Int)/\Hid (dh w wr C S P b n (a.heap.size+1+1) (a.heap.size) (a.heap.size+1))) (λ_ i _=>b-(intOf i).toNat)
  case atStart=>
   refine⟨0,Nat.zero_le _,rfl,rfl,?_⟩;refine⟨ai (ah (ah (ah j.out.2.2.2 _) _) _),by omega,by omega,by omega,by omega,by omega,by omega,?_,?_,?_,?_,?_⟩
   ·exact(Below.heap_alloc _ _ _ oT).trans ((Below.heap_alloc _ _ _ oT).trans ((Below.heap_alloc _ _ _ oO).trans j.out.2.1))
   ·exact(Below.heap_alloc _ _ _ oT).trans ((Below.heap_alloc _ _ _ oT).trans ((Below.heap_alloc _ _ _ oO).trans j.out.2.2.1))
   ·rw[B.out];exact(cX a _ _ _).2.2
   ·rw[D.out];exact(cX a _ _ _).1
   ·exact(cX a _ _ _).2.1
  case round=>
   obtain⟨n,hn,rfl,rfl,hid⟩:=hrel;obtain⟨⟨E,F,G⟩,⟨H,J,K,L⟩,f⟩:=dh.cells c.out d.out hid.out;by_cases k:n<b
   ·obtain⟨⟨u1,M⟩,N,⟨u2,s3⟩,O⟩:=f k;have q:fpowN S P (aw S P) n<S:=ep c.out n;have r:=Lib.hid (dh.store c.out d.out hid.out k);have o:Hid (mulR C S P (fpowN S P (aw S P) n:Nat) (aw S P:Nat)=(((fpowN S P (aw S P) (n+1):Nat):Int),0)):=by
     show _=_;unfold mulR;rw[gF c.out q hg];simp;rfl
    generalize fpowN S P (aw S P) n=X at*;generalize l:fpowN S P (aw S P) (n+1)=Y at*;have p:=Lib.hid l;clear l;clear f;go_wp2;go_region
    all_goals go_wp2_with(go_at_call 159;refine(ir C S P X (aw S P) _ oO z).mono ?_;rintro e Q ⟨rfl,s⟩;rw[o.out])
    all_goals go_roundw
    all_goals try(case measure=>simp[intOf];omega)
    all_goals refine⟨n+1,by omega,by go_num,by rw[p.out],?_⟩
    all_goals exact dh.below (dh.drew r.out) s
   ·obtain rfl:n=b:=oO;obtain⟨T,U,V,W,Z⟩:=dh.res hid.out;have t:=Lib.hid (dh.pG c.out d.out hid.out);clear f;go_wp2;refine bodyPost_ret (v:= .agg #[.int .i64 C,.int .i64 S,.slice (some ⟨(a.heap.size+1+1),0,none⟩) n n,.slice (some ⟨(a.heap.size),0,none⟩) S S]) ?_ rfl ⟨(a.heap.size+1+1),(a.heap.size),?_,?_,?_⟩
    ·have u:Tryz.f155.results=#[.cell 2 200]:=oK;simp only[results,u];go_simp
    ·rw[d.out]
    ·exact(((t.out.setCell _ _ oT oT).setCell _ _ oT oT).setCell _ _ oT oT).setCell _ _ oT oT
    ·exact(((hid.out.B.setCell oS _).setCell oS _).setCell oS _).setCell oS _
 ·go_loopw [6,28] (λx i wr=>∃n:Nat,n<=b/\i= .int .i64 (n:Nat)/\x= .int .i64 ((fpowN S P (aw S P) n:Nat):Int)/\Hid (dh w wr C S P b n (a.heap.size+1) (a.heap.size+1+1) (a.heap.size))) (λ_ i _=>b-(intOf i).toNat)
  case atStart=>
   refine⟨0,Nat.zero_le _,rfl,rfl,?_⟩;refine⟨ai (ah (ah (ah j.out.2.2.2 _) _) _),by omega,by omega,by omega,by omega,by omega,by omega,?_,?_,?_,?_,?_⟩
   ·exact(Below.heap_alloc _ _ _ oT).trans ((Below.heap_alloc _ _ _ oT).trans ((Below.heap_alloc _ _ _ oO).trans j.out.2.1))
   ·exact(Below.heap_alloc _ _ _ oT).trans ((Below.heap_alloc _ _ _ oT).trans ((Below.heap_alloc _ _ _ oO).trans j.out.2.2.1))
   ·rw[B.out];exact(cX a _ _ _).2.1
   ·rw[D.out];exact(cX a _ _ _).2.2
   ·exact(cX a _ _ _).1
  case round=>
   obtain⟨n,hn,rfl,rfl,hid⟩:=hrel;obtain⟨⟨E,F,G⟩,⟨H,J,K,L⟩,f⟩:=dh.cells c.out d.out hid.out;by_cases k:n<b
   ·obtain⟨⟨u1,M⟩,N,⟨u2,s3⟩,O⟩:=f k;have q:fpowN S P (aw S P) n<S:=ep c.out n;have r:=Lib.hid (dh.store c.out d.out hid.out k);have o:Hid (mulR C S P (fpowN S P (aw S P) n:Nat) (aw S P:Nat)=(((fpowN S P (aw S P) (n+1):Nat):Int),0)):=by
     show _=_;unfold mulR;rw[gF c.out q hg];simp;rfl
    generalize fpowN S P (aw S P) n=X at*;generalize l:fpowN S P (aw S P) (n+1)=Y at*;have p:=Lib.hid l;clear l;clear f;go_wp2;go_region
    all_goals go_wp2_with(go_at_call 159;refine(ir C S P X (aw S P) _ oO z).mono ?_;rintro e Q ⟨rfl,s⟩;rw[o.out])
    all_goals go_roundw
    all_goals try(case measure=>simp[intOf];omega)
    all_goals refine⟨n+1,by omega,by go_num,by rw[p.out],?_⟩
    all_goals exact dh.below (dh.drew r.out) s
   ·obtain rfl:n=b:=oO;obtain⟨T,U,V,W,Z⟩:=dh.res hid.out;have t:=Lib.hid (dh.pG c.out d.out hid.out);clear f;go_wp2;refine bodyPost_ret (v:= .agg #[.int .i64 C,.int .i64 S,.slice (some ⟨(a.heap.size+1),0,none⟩) n n,.slice (some ⟨(a.heap.size+1+1),0,none⟩) S S]) ?_ rfl ⟨(a.heap.size+1),(a.heap.size+1+1),?_,?_,?_⟩
    ·have u:Tryz.f155.results=#[.cell 2 200]:=oK;simp only[results,u];go_simp
    ·rw[d.out]
    ·exact(((t.out.setCell _ _ oT oT).setCell _ _ oT oT).setCell _ _ oT oT).setCell _ _ oT oT
    ·exact(((hid.out.B.setCell oS _).setCell oS _).setCell oS _).setCell oS _
 ·go_loopw [6,28] (λx i wr=>∃n:Nat,n<=b/\i= .int .i64 (n:Nat)/\x= .int .i64 ((fpowN S P (aw S P) n:Nat):Int)/\Hid (dh w wr C S P b n (a.heap.size+1+1) (a.heap.size+1) (a.heap.size))) (λ_ i _=>b-(intOf i).toNat)
  case atStart=>
   refine⟨0,Nat.zero_le _,rfl,rfl,?_⟩;refine⟨ai (ah (ah (ah j.out.2.2.2 _) _) _),by omega,by omega,by omega,by omega,by omega,by omega,?_,?_,?_,?_,?_⟩
   ·exact(Below.heap_alloc _ _ _ oT).trans ((Below.heap_alloc _ _ _ oT).trans ((Below.heap_alloc _ _ _ oO).trans j.out.2.1))
   ·exact(Below.heap_alloc _ _ _ oT).trans ((Below.heap_alloc _ _ _ oT).trans ((Below.heap_alloc _ _ _ oO).trans j.out.2.2.1))
   ·rw[B.out];exact(cX a _ _ _).2.2
   ·rw[D.out];exact(cX a _ _ _).2.1
   ·exact(cX a _ _ _).1
  case round=>
   obtain⟨n,hn,rfl,rfl,hid⟩:=hrel;obtain⟨⟨E,F,G⟩,⟨H,J,K,L⟩,f⟩:=dh.cells c.out d.out hid.out;by_cases k:n<b
   ·obtain⟨⟨u1,M⟩,N,⟨u2,s3⟩,O⟩:=f k;have q:fpowN S P (aw S P) n<S:=ep c.out n;have r:=Lib.hid (dh.store c.out d.out hid.out k);have o:Hid (mulR C S P (fpowN S P (aw S P) n:Nat) (aw S P:Nat)=(((fpowN S P (aw S P) (n+1):Nat):Int),0)):=by
     show _=_;unfold mulR;rw[gF c.out q hg];simp;rfl
    generalize fpowN S P (aw S P) n=X at*;generalize l:fpowN S P (aw S P) (n+1)=Y at*;have p:=Lib.hid l;clear l;clear f;go_wp2;go_region
    all_goals go_wp2_with(go_at_call 159;refine(ir C S P X (aw S P) _ oO z).mono ?_;rintro e Q ⟨rfl,s⟩;rw[o.out])
    all_goals go_roundw
    all_goals try(case measure=>simp[intOf];omega)
    all_goals refine⟨n+1,by omega,by go_num,by rw[p.out],?_⟩
    all_goals exact dh.below (dh.drew r.out) s
   ·obtain rfl:n=b:=oO;obtain⟨T,U,V,W,Z⟩:=dh.res hid.out;have t:=Lib.hid (dh.pG c.out d.out hid.out);clear f;go_wp2;refine bodyPost_ret (v:= .agg #[.int .i64 C,.int .i64 S,.slice (some ⟨(a.heap.size+1+1),0,none⟩) n n,.slice (some ⟨(a.heap.size+1),0,none⟩) S S]) ?_ rfl ⟨(a.heap.size+1+1),(a.heap.size+1),?_,?_,?_⟩
    ·have u:Tryz.f155.results=#[.cell 2 200]:=oK;simp only[results,u];go_simp
    ·rw[d.out]
    ·exact(((t.out.setCell _ _ oT oT).setCell _ _ oT oT).setCell _ _ oT oT).setCell _ _ oT oT
    ·exact(((hid.out.B.setCell oS _).setCell oS _).setCell oS _).setCell oS _
def jK (w:World) (L:List Int×Int) (e:Ending) (w':World):Prop:=∃v,e= .returned (.tuple #[v,.int .i64 L.2])/\aq w' v L.1/\Below w.heap.size w w'
theorem jK.mk {w w':World} {R:List Int×Int} {v:Value} {L:List Int} {err:Int} (h:R=(L,err)) (a:aq w' v L) (hb:Below w.heap.size w w'):jK w R (.returned (.tuple #[v,.int .i64 err])) w':=by
 subst h;exact⟨v,rfl,a,hb⟩
abbrev nl (xs:List Int):List Nat:=xs.map Int.toNat
theorem qp (l:List Nat):nl (zl l)=l:=by
 unfold nl zl;rw[List.map_map];exact(List.map_congr_left λx _=>(rfl:(Int.toNat∘λn:Nat=>(n:Int)) x=x)).trans (List.map_id l)
theorem Dk {c s p:Int} {xs:List Int} (h:nZ c s p xs=true):∃(C S P:Nat) (l:List Nat),c=C/\s=S/\p=P/\xs=zl l/\VF C S P/\aj S l/\cG l/\l.length<=4097:=by
 unfold nZ at h;rw[Bool.and_eq_true]at h;obtain⟨C,S,P,rfl,rfl,rfl,a⟩:=pF h.1;obtain⟨l,rfl,b,d,e⟩:=Jx (by have:=a.aG;omega) h.2;exact⟨C,S,P,l,rfl,rfl,rfl,rfl,a,b,d,e⟩
theorem KR (c s p:Int) (xs ys:List Int):(aW c s p&&[(⟨none,0,0,xs⟩:Sl),⟨none,0,0,ys⟩].all λq=>iM s q.xs)=(nZ c s p xs&&nZ c s p ys):=by
 unfold nZ;simp only[List.all_cons,List.all_nil];cases aW c s p<;>simp
theorem xH (c s p:Int) (A B:Option Addr) (n a m d:Nat) (xs ys:List Int) (b:Nat) (w:World) (t:TypeId) (f:p<=9223372036854775807) (hb:b=w.heap.size)
 (hq:(⟨A,n,a,xs⟩:Sl).R w) (g:(⟨B,m,d,ys⟩:Sl).R w):
 Calls Tryz.prog 154 #[aN c s p,.slice (some ⟨b,0,none⟩) 2 2] (w.alloc (.cells #[.slice A n a,.slice B m d] t)) λe w'=>e= .returned (.bool (nZ c s p xs&&nZ c s p ys))/\Below w.heap.size w w':=
 (uP c s p (some ⟨b,0,none⟩) 2 2 [⟨A,n,a,xs⟩,⟨B,m,d,ys⟩] _ rfl oO f (ri.two (q:=⟨A,n,a,xs⟩) (r:=⟨B,m,d,ys⟩) t b hb hq g)).mono λe w' ⟨i,j⟩=>⟨i.trans (aK (KR c s p xs ys)),aa ((Below.refl _ _).alloc (Nat.le_refl _) _) j⟩
theorem sY (c s p:Int) (w:World) (a:p<=9223372036854775807):
 Calls Tryz.prog 154 #[aN c s p,.slice none 0 0] w λe w'=>e= .returned (.bool (aW c s p))/\Below w.heap.size w w':=
 (uP c s p none 0 0 [] w rfl oO a (ri.dR _ _)).mono λe w' ⟨b,d⟩=>⟨b.trans (aK oS),d⟩
end
section
open Fl
section
variable {K : Type} [Fl K]
def cu (a:Nat->K):Nat->K:=λn=>a (n+1)
def conv:(Nat->K)->(Nat->K)->Nat->K
 |a,b,0=>a 0* b 0
 |a,b,n+1=>a 0* b (n+1)+conv (cu a) b n
theorem dn (a b:Nat->K):conv a b 0=a 0* b 0:=rfl
theorem bW (a b:Nat->K) (n:Nat):conv a b (n+1)=a 0* b (n+1)+conv (cu a) b n:=rfl
theorem dK {a a' b b':Nat->K} {n:Nat} (c:∀k,k<=n->a k=a' k) (hb:∀k,k<=n->b k=b' k):conv a b n=conv a' b' n:=by
 induction n generalizing a a' with
 |zero=>rw[dn,dn,c 0 (Nat.le_refl _),hb 0 (Nat.le_refl _)]
 |succ n d=>
  rw[bW,bW,c 0 oO,hb (n+1) oO,d (a:=cu a) (a':=cu a') (λk e=>c (k+1) oO) (λk e=>hb k oO)]
theorem fH {a b:Nat->K} {n:Nat} (c:∀k,a k=0):conv a b n=0:=by
 induction n generalizing a with
 |zero=>rw[dn,c,bU]
 |succ n d=>rw[bW,c,bU,d (a:=cu a) (λk=>c (k+1)),bO]
theorem Kc (a b:Nat->K) (n:Nat):conv a b (n+1)=conv a (cu b) n+a (n+1)* b 0:=by
 induction n generalizing a with
 |zero=>rfl
 |succ n c=>
  rw[bW,c,bW a (cu b)];show a 0* b (n+1+1)+(conv (cu a) (cu b) n+a (n+1+1)* b 0)=a 0* b (n+1+1)+conv (cu a) (cu b) n+a (n+1+1)* b 0
  rw[fP]
theorem gf (a b:Nat->K) (n:Nat):conv a b n=conv b a n:=by
 induction n generalizing a with
 |zero=>rw[dn,dn,bS]
 |succ n c=>rw[bW,Kc,c (cu a),eG,bS]
theorem iq (a b c:Nat->K) (n:Nat):conv (λk=>a k+b k) c n=conv a c n+conv b c n:=by
 induction n generalizing a b with
 |zero=>rw[dn,dn,dn,gu]
 |succ n d=>
  rw[bW,bW,bW];rw[show conv (cu λk=>a k+b k) c n=conv (cu a) c n+conv (cu b) c n from d (cu a) (cu b),gu]
  ac_rfl
theorem pP (r:K) (a c:Nat->K) (n:Nat):conv (λk=>r* a k) c n=r* conv a c n:=by
 induction n generalizing a with
 |zero=>rw[dn,dn,bY]
 |succ n b=>
  rw[bW,bW,show conv (cu λk=>r* a k) c n=r* conv (cu a) c n from b (cu a),gQ,bY]
theorem qd (a b c:Nat->K) (n:Nat):conv a (λk=>b k+c k) n=conv a b n+conv a c n:=by
 rw[gf,iq,gf b,gf c]
theorem yN (a c:Nat->K) (n:Nat):conv (λk=>-a k) c n=-conv a c n:=by
 apply fu (a:=conv a c n);rw[<-iq,eC];exact fH λk=>eC _
theorem yE (a b c:Nat->K) (n:Nat):conv (λk=>a k-b k) c n=conv a c n-conv b c n:=by
 rw[show conv (λk=>a k-b k) c n=conv (λk=>a k+-b k) c n from rfl,iq a (λk=>-b k),yN];rfl
theorem lj (a b c:Nat->K) (n:Nat):conv (conv a b) c n=conv a (conv b c) n:=by
 induction n generalizing a with
 |zero=>rw[dn,dn,dn,dn,bY]
 |succ n d=>
  have e:conv (cu (conv a b)) c n=a 0* conv (cu b) c n+conv (cu a) (conv b c) n:=by
   rw[<-d,<-pP (a 0) (cu b),<-iq];exact dK (λk _=>by show conv a b (k+1)=_;rw[bW];rfl) (λ_ _=>rfl)
  rw[bW,e,bW a (conv b c),dn,bW b c,gQ,bY,fP]
def ff (r:K):Nat->K:=λn=>if n=0 then r else 0
theorem kE (r:K) (b:Nat->K) (n:Nat):conv (ff r) b n=r* b n:=by
 cases n with
 |zero=>rfl
 |succ n=>
  rw[bW,fH (a:=cu (ff r)) (λk=>rfl),aR];rfl
def cS (d:Nat) (a:Nat->K):Prop:=∀i,d<=i->a i=0
theorem cS.mono {d e:Nat} {a:Nat->K} (h:cS d a) (c:d<=e):cS e a:=λi b=>h i oO
theorem cS.tl {d:Nat} {a:Nat->K} (h:cS (d+1) a):cS d (cu a):=λi b=>h (i+1) oO
theorem cS.all {a:Nat->K} (h:cS 0 a) (k:Nat):a k=0:=h k (Nat.zero_le _)
theorem cS.conv {a b:Nat->K} {d e:Nat} (c:cS d a) (hb:cS e b) (n:Nat) (hn:d+e<=n+1):conv a b n=0:=by
 induction n generalizing a d with
 |zero=>
  rw[dn];rcases Nat.eq_zero_or_pos d with h|h
  ·subst h;rw[c.all,bU]
  ·rw[hb 0 oO,aV]
 |succ n f=>
  rcases Nat.eq_zero_or_pos d with h|h
  ·subst h;exact fH c.all
  ·obtain⟨d,rfl⟩:∃k,d=k+1:=⟨d-1,by omega⟩;rw[bW,hb (n+1) oO,aV,f c.tl oO,aR]
theorem II {a b:Nat->K} {d e:Nat} (c:cS (d+1) a) (hb:cS (e+1) b):conv a b (d+e)=a d* b e:=by
 induction d generalizing a with
 |zero=>
  rw[Nat.zero_add];cases e with
  |zero=>rfl
  |succ e=>rw[bW,fH c.tl.all,aR]
 |succ d f=>
  rw[show d+1+e=(d+e)+1 from by omega,bW,hb _ oO,aV,bO,f c.tl];rfl
def bN (x:K):(Nat->K)->Nat->K
 |_,0=>0
 |f,n+1=>f 0+x* bN x (cu f) n
theorem cN (x:K) (f:Nat->K) (n:Nat):bN x f (n+1)=f 0+x* bN x (cu f) n:=rfl
theorem fA {x:K} {f g:Nat->K} {n:Nat} (h:∀i,i<n->f i=g i):bN x f n=bN x g n:=by
 induction n generalizing f g with
 |zero=>rfl
 |succ n a=>rw[cN,cN,h 0 oO,a (f:=cu f) (g:=cu g) (λi b=>h (i+1) oO)]
theorem qI {x:K} {f:Nat->K} (h:∀i,f i=0) (n:Nat):bN x f n=0:=by
 induction n generalizing f with
 |zero=>rfl
 |succ n a=>rw[cN,h,a (f:=cu f) (λi=>h (i+1)),aV,aR]
theorem fJ {x:K} {f:Nat->K} {n m:Nat} (h:cS n f) (b:n<=m):bN x f m=bN x f n:=by
 induction n generalizing f m with
 |zero=>exact qI h.all m
 |succ n a=>
  obtain⟨m,rfl⟩:∃k,m=k+1:=⟨m-1,by omega⟩;rw[cN,cN,a h.tl oO]
theorem nI (x:K) (f g:Nat->K) (n:Nat):bN x (λk=>f k+g k) n=bN x f n+bN x g n:=by
 induction n generalizing f g with
 |zero=>exact(bO _).symm
 |succ n a=>
  rw[cN,cN,cN,show bN x (cu λk=>f k+g k) n=bN x (cu f) n+bN x (cu g) n from a (cu f) (cu g),gQ]
  ac_rfl
theorem oB (x r:K) (f:Nat->K) (n:Nat):bN x (λk=>r* f k) n=r* bN x f n:=by
 induction n generalizing f with
 |zero=>exact(aV _).symm
 |succ n a=>
  rw[cN,cN,show bN x (cu λk=>r* f k) n=r* bN x (cu f) n from a (cu f),gQ]
  ac_rfl
theorem Le (x:K) (f:Nat->K) (n:Nat):bN x (λk=>-f k) n=-bN x f n:=by
 apply fu (a:=bN x f n);rw[<-nI,eC];exact qI (λk=>eC _) n
theorem s0 (x:K) (f g:Nat->K) (n:Nat):bN x (λk=>f k-g k) n=bN x f n-bN x g n:=by
 rw[show bN x (λk=>f k-g k) n=bN x (λk=>f k+-g k) n from rfl,nI x f (λk=>-g k),Le];rfl
theorem zt {x:K} {a b:Nat->K} {d e:Nat} (c:cS d a) (hb:cS e b):bN x (conv a b) (d+e)=bN x a d* bN x b e:=by
 induction d generalizing a with
 |zero=>rw[show bN x a 0=0 from rfl,bU];exact qI (λi=>fH c.all) _
 |succ d f=>
  rw[show d+1+e=(d+e)+1 from by omega,cN,cN];have e1:bN x (cu (conv a b)) (d+e)=a 0* bN x (cu b) (d+e)+bN x (conv (cu a) b) (d+e):=by
   rw[<-oB,<-nI];rfl
  have e2:bN x b e=b 0+x* bN x (cu b) (d+e):=by
   rw[<-cN];exact(fJ hb oO).symm
  rw[e1,f c.tl,dn,gu,gQ,e2,gQ];simp only[gQ]
  ac_rfl
theorem xn (x:K) (f:Nat->K) (n:Nat):bN x f (n+1)=bN x f n+f n* x^n:=by
 induction n generalizing f with
 |zero=>rw[cN];show f 0+x* 0=0+f 0* x^0;rw[aV,iG,eD,eG]
 |succ n a=>
  rw[cN,a (cu f),cN x f n,gQ,dE];show f 0+(x* bN x (cu f) n+x* (f (n+1)* x^n))=f 0+x* bN x (cu f) n+f (n+1)* (x^n* x)
  ac_rfl
theorem IK (x:K) (f:Nat->K) (n:Nat):ev x ((List.range n).map f)=bN x f n:=by
 induction n generalizing f with
 |zero=>rfl
 |succ n a=>
  rw[List.range_succ_eq_map,List.map_cons,List.map_map,cN,<-a (cu f)];rfl
theorem DR {a:Nat->K} {n:Nat} (h:cS n a) (k:∃i,a i≠0):∃d,d<n/\a d≠0/\cS (d+1) a:=by
 induction n with
 |zero=>obtain⟨i,b⟩:=k;exact absurd (h.all i) b
 |succ n f=>
  by_cases c:a n=0
  ·obtain⟨d,l,g,j⟩:=f (λi b=>by
    by_cases e:i=n
    ·rw[e];exact c
    ·exact h i oO)
   exact⟨d,by omega,g,j⟩
  ·exact⟨n,by omega,c,h⟩
theorem tT {f:Nat->K} {n:Nat} (a:cS n f) (l:List K) (hl:l.Nodup) (hn:n<=l.length) (b:∀x∈l,bN x f n=0) (i:Nat):f i=0:=by
 apply Classical.byContradiction;intro c;obtain⟨d,j,e,hs⟩:=DR a ⟨i,c⟩
 have:=BQ ((List.range (d+1)).map f) (f d) (by rw[List.range_succ];simp) e l hl (λx g=>by
  rw[IK];have:=b x g;rw[fJ hs oO]at this
  exact this)
 simp at this;omega
def gZ (n:Nat) (a:K):K:=match n with
 |0=>0
 |n+1=>gZ n a+a
theorem J9 (n:Nat) (a b:K):gZ n (a+b)=gZ n a+gZ n b:=by
 induction n with
 |zero=>exact(bO _).symm
 |succ n c=>show gZ n (a+b)+(a+b)=(gZ n a+a)+(gZ n b+b);rw[c];ac_rfl
theorem DF (n:Nat) (a b:K):gZ n (a* b)=gZ n a* b:=by
 induction n with
 |zero=>exact(bU _).symm
 |succ n c=>show gZ n (a* b)+a* b=(gZ n a+a)* b;rw[c,gu]
theorem tZ (n:Nat):gZ n (0:K)=0:=by
 induction n with
 |zero=>rfl
 |succ n a=>show gZ n (0:K)+0=0;rw[a,aR]
def j6 (a:Nat->K):Nat->K:=λn=>gZ (n+1) (a (n+1))
def sh (a:Nat->K):Nat->K
 |0=>0
 |n+1=>a n
theorem Hf (a:Nat->K) (n:Nat):j6 a n=cu a n+sh (j6 (cu a)) n:=by
 cases n with
 |zero=>show gZ 0 (a 1)+a 1=a 1+0;rw[show gZ 0 (a 1)=0 from rfl,bO,aR]
 |succ n=>show gZ (n+1) (a (n+1+1))+a (n+1+1)=a (n+1+1)+gZ (n+1) (a (n+1+1));rw[eG]
theorem Dw (a b:Nat->K) (n:Nat):conv (sh a) b n=sh (conv a b) n:=by
 cases n with
 |zero=>exact bU _
 |succ n=>rw[bW];show(0:K)* _+conv (cu (sh a)) b n=conv a b n;rw[bU,bO];rfl
theorem Iv (a b:Nat->K) (n:Nat):j6 (conv a b) n=conv (j6 a) b n+conv a (j6 b) n:=by
 induction n generalizing a with
 |zero=>
  show gZ 0 (conv a b 1)+conv a b 1=(gZ 0 (a 1)+a 1)* b 0+a 0* (gZ 0 (b 1)+b 1)
  have z:∀u:K,gZ 0 u+u=u:=λu=>bO u;rw[z,z,z];show a 0* b 1+a 1* b 0=_;rw[eG]
 |succ n c=>
  have e1:j6 (conv a b) (n+1)=a 0* j6 b (n+1)+(conv (cu a) b (n+1)+j6 (conv (cu a) b) n):=by
   show gZ (n+1+1) (conv a b (n+1+1))=_;rw[bW,J9];congr 1
   ·rw[bS,DF,bS];rfl
   ·show gZ (n+1) (conv (cu a) b (n+1))+conv (cu a) b (n+1)=_
    rw[eG];rfl
  have e2:conv (j6 a) b (n+1)=conv (cu a) b (n+1)+conv (j6 (cu a)) b n:=by
   rw[dK (a:=j6 a) (a':=λk=>cu a k+sh (j6 (cu a)) k) (b:=b) (b':=b) (λk _=>Hf a k) (λ_ _=>rfl),iq,Dw];rfl
  rw[e1,e2,c,bW a (j6 b)]
  ac_rfl
def dm (f:Nat->K):Nat->K
 |0=>0
 |n+1=>dm f n+f n
theorem vS (f:Nat->K) (n:Nat):dm f (n+1)=f 0+dm (cu f) n:=by
 induction n with
 |zero=>show(0:K)+f 0=f 0+0;rw[eG]
 |succ n a=>show dm f (n+1)+f (n+1)=f 0+(dm (cu f) n+cu f n);rw[a,fP];rfl
theorem iB {f g:Nat->K} {n:Nat} (h:∀k,k<n->f k=g k):dm f n=dm g n:=by
 induction n with
 |zero=>rfl
 |succ n a=>show dm f n+f n=dm g n+g n;rw[a λk b=>h k oO,h n oO]
theorem qz {f:Nat->K} {n m:Nat} (h:∀k,n<=k->k<m->f k=0) (c:n<=m):dm f m=dm f n:=by
 induction m with
 |zero=>rw[show n=0 from by omega]
 |succ m a=>
  by_cases e:n=m+1
  ·rw[e]
  ·show dm f m+f m=_;rw[h m oO oO,aR,a (λk b d=>h k b oO) oO]
theorem nN (a b:Nat->K) (n:Nat):conv a b n=dm (λk=>a k* b (n-k)) (n+1):=by
 induction n generalizing a with
 |zero=>exact(bO _).symm
 |succ n c=>
  rw[vS,bW,c];congr 1;apply iB;intro k d;show a (k+1)* b (n-k)=a (k+1)* b (n+1-(k+1));rw[show n+1-(k+1)=n-k from by omega]
end
end
end Go.Proofs.YtmnlkganmgcpbaaGreatDoor
