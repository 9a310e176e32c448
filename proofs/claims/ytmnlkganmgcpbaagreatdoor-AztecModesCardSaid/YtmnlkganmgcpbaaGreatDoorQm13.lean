import Derived.Test.YtmnlkganmgcpbaaGreatDoorQm12
import Derived.Test.YtmnlkganmgcpbaaGreatDoorQm6
set_option maxRecDepth 100000
set_option maxHeartbeats 4000000
set_option linter.unusedVariables false
set_option linter.unusedSectionVars false
set_option linter.unusedSimpArgs false
namespace Go.Proofs.YtmnlkganmgcpbaaGreatDoor
section
open Go.RowKit
abbrev rO (C S a bl P par first wb n cw eb:Nat) (b c d e:Value):List Value:=
 [.int .i64 C,.int .i64 S,.slice (some ⟨a,0,none⟩) (S-1) (S-1),.slice (some ⟨bl,0,none⟩) S S,.int .i64 C,.int .i64 S,.int .i64 P,.int .i64 par,.int .i64 first,.slice (some ⟨wb,0,none⟩) n cw,.slice (some ⟨eb,0,none⟩) n n,.int .i64 0,b,c,d,e]
structure DK where
 N:Nat
 M:Nat
 w0:World
 db:Nat
 wb:Nat
 eb:Nat
 be:Nat
 bl:Nat
 C:Nat
 S:Nat
 P:Nat
 par:Nat
 first:Nat
 n:Nat
 cw:Nat
 X:World->Prop
structure DK.Ok (k:DK):Prop where
 vf:VF k.C k.S k.P
 p1:1<=k.par
 p2:k.par<=k.S-2
 f2:k.first<=k.S-2
 n1:1<=k.n
 n2:k.n<=k.S-1
 Mx:k.n<=k.cw
 My:k.cw<=maxLen
 lo:k.N<=k.db/\k.N<=k.wb
 e1:k.db≠k.wb
 e2:k.be≠k.db
 e3:k.be≠k.wb
 e4:k.bl≠k.db
 e5:k.bl≠k.wb
 e6:k.eb≠k.db
 e7:k.eb≠k.wb
 xb:∀wr W,k.X wr->Below k.M wr W->wr.heap.size<=W.heap.size->k.X W
 xs:∀wr g i u,(g=k.db\/g=k.wb)->k.X wr->k.X (wr.setCell ⟨g,i,none⟩ u)
 m:k.N<=k.M/\k.db<k.M/\k.wb<k.M/\k.eb<k.M/\k.be<k.M/\k.bl<k.M
def AY (v:Value):Prop:=∃A n c,v= .slice A n c
structure DS (k:DK) (wr:World) (b c d e:Value) (a:List Nat):Prop where
 ok:k.Ok
 B:Below k.N k.w0 wr
 sz:k.M<=wr.heap.size
 R:ae wr k.db (rO k.C k.S k.be k.bl k.P k.par k.first k.wb k.n k.cw k.eb b c d e).toArray 155
 W:ba wr k.wb a
 hw:k.n=a.length
 lt:aj k.S a
 T:dg wr k.S k.P k.be k.bl
 E:k.eb<wr.heap.size/\∀i,i<k.n->wr.cell? ⟨k.eb,i,none⟩=some (.bool false)
 X:k.X wr
theorem DS.Ft {k:DK} {wr W:World} {b c d e:Value} {f:List Nat} (h:DS k wr b c d e f) (hb:Below k.M wr W) (hs:wr.heap.size<=W.heap.size):DS k W b c d e f:=by
 obtain⟨j,l,g,m,n,o⟩:=h.ok.m
 exact⟨h.ok,h.B.trans (hb.mono j),Nat.le_trans h.sz hs,(hb.block _ l).trans h.R,⟨Nat.lt_of_lt_of_le h.W.1 hs,λi a=>⟨(hb.cell g).trans (h.W.2 i a).1,(hb.frozen g).trans (h.W.2 i a).2⟩⟩,h.hw,h.lt,
  ⟨Nat.lt_of_lt_of_le h.T.1 hs,Nat.lt_of_lt_of_le h.T.2.1 hs,λi a=>(hb.cell n).trans (h.T.2.2.1 i a),λx p q=>(hb.cell o).trans (h.T.2.2.2 x p q)⟩,⟨Nat.lt_of_lt_of_le h.E.1 hs,λi a=>(hb.cell m).trans (h.E.2 i a)⟩,h.ok.xb _ _ h.X hb hs⟩
theorem DS.below {k:DK} {wr W:World} {a b c d:Value} {e:List Nat} (h:DS k wr a b c d e) (hb:Below wr.heap.size wr W):DS k W a b c d e:=h.Ft (hb.mono h.sz) hb.size
theorem DS.cells {k:DK} {wr:World} {a b c d:Value} {e:List Nat} (h:DS k wr a b c d e):
 (wr.cell? ⟨k.db,0,none⟩=some (.int .i64 k.C)/\wr.cell? ⟨k.db,1,none⟩=some (.int .i64 k.S)/\wr.cell? ⟨k.db,2,none⟩=some (.slice (some ⟨k.be,0,none⟩) (k.S-1) (k.S-1))/\wr.cell? ⟨k.db,3,none⟩=some (.slice (some ⟨k.bl,0,none⟩) k.S k.S))/\
 (wr.cell? ⟨k.db,4,none⟩=some (.int .i64 k.C)/\wr.cell? ⟨k.db,5,none⟩=some (.int .i64 k.S)/\wr.cell? ⟨k.db,6,none⟩=some (.int .i64 k.P)/\wr.cell? ⟨k.db,7,none⟩=some (.int .i64 k.par)/\wr.cell? ⟨k.db,8,none⟩=some (.int .i64 k.first))/\
 (wr.cell? ⟨k.db,9,none⟩=some (.slice (some ⟨k.wb,0,none⟩) k.n k.cw)/\wr.cell? ⟨k.db,10,none⟩=some (.slice (some ⟨k.eb,0,none⟩) k.n k.n)/\wr.cell? ⟨k.db,11,none⟩=some (.int .i64 0))/\
 (wr.cell? ⟨k.db,12,none⟩=some a/\wr.cell? ⟨k.db,13,none⟩=some b/\wr.cell? ⟨k.db,14,none⟩=some c/\wr.cell? ⟨k.db,15,none⟩=some d)/\∀i,wr.frozen? ⟨k.db,i,none⟩=false:=
 ⟨⟨h.R.cell 0 _ rfl,h.R.cell 1 _ rfl,h.R.cell 2 _ rfl,h.R.cell 3 _ rfl⟩,⟨h.R.cell 4 _ rfl,h.R.cell 5 _ rfl,h.R.cell 6 _ rfl,h.R.cell 7 _ rfl,h.R.cell 8 _ rfl⟩,⟨h.R.cell 9 _ rfl,h.R.cell 10 _ rfl,h.R.cell 11 _ rfl⟩,⟨h.R.cell 12 _ rfl,h.R.cell 13 _ rfl,h.R.cell 14 _ rfl,h.R.cell 15 _ rfl⟩,λi=>frozen_of_row _ _ _ _ _ h.R⟩
theorem DS.store {k:DK} {wr:World} {b c d f:Value} {g:List Nat} (h:DS k wr b c d f g) (i:Nat) (u:Value) {l m n o:Value}
 (p:(rO k.C k.S k.be k.bl k.P k.par k.first k.wb k.n k.cw k.eb b c d f).toArray.setIfInBounds i u=(rO k.C k.S k.be k.bl k.P k.par k.first k.wb k.n k.cw k.eb l m n o).toArray):DS k (wr.setCell ⟨k.db,i,none⟩ u) l m n o g:=by
 have a:=h.ok;refine⟨a,h.B.setCell a.lo.1 _,by simpa using h.sz,by rw[<-p];exact h.R.jn u,h.W.other _ _ (Ne.symm a.e1),h.hw,h.lt,h.T.setCell _ _ a.e2 a.e4,⟨by simpa using h.E.1,λj q=>?_⟩,a.xs _ _ _ _ (.inl rfl) h.X⟩;rw[World.cell?_setCell_other wr _ _ u (λe=>a.e6 (by injection e with e1;exact e1.symm))];exact h.E.2 j q
theorem DS.word {k:DK} {wr:World} {b c d f:Value} {g:List Nat} (h:DS k wr b c d f g) (i v:Nat) (l:v<k.S):DS k (wr.setCell ⟨k.wb,i,none⟩ (.int .i64 (v:Int))) b c d f (g.set i v):=by
 have a:=h.ok;refine⟨a,h.B.setCell a.lo.2 _,by simpa using h.sz,?_,h.W.set i v,by rw[List.length_set];exact h.hw,mS h.lt i v l,h.T.setCell _ _ a.e3 a.e5,⟨by simpa using h.E.1,λj m=>?_⟩,a.xs _ _ _ _ (.inr rfl) h.X⟩
 ·exact(heap_setCell_other wr ⟨k.wb,i,none⟩ k.db _ a.e1).trans h.R
 ·rw[World.cell?_setCell_other wr _ _ _ (λe=>a.e7 (by injection e with e1;exact e1.symm))];exact h.E.2 j m
theorem DS.J8 {k:DK} {wr:World} {b c d e:Value} {a:List Nat} (h:DS k wr b c d e a):RD wr (some ⟨k.wb,0,none⟩) (zl a):=h.W.rd
theorem yv (k:DK) (c d f g:Value) (j:List Nat) (i:Nat) (w:World) (h:DS k w c d f g j) (l:i<k.n):
 Calls Tryz.prog 199 #[.pointer (some ⟨k.db,0,none⟩),.int .i64 i] w λe w'=>e= .returned (.int .i64 ((k.n-1-i:Nat):Int))/\w'=w:=by
 obtain⟨-,-,⟨m,-,-⟩,-⟩:=h.cells;have hn:=h.ok.n2;have o:=h.ok.vf.le;obtain⟨n,b⟩:∃n,n=k.n:=⟨_,rfl⟩;obtain⟨r,a⟩:∃r,r=k.n-1-i:=⟨_,rfl⟩;rw[<-a];rw[<-b]at m hn l a;have e1:(n:Int)-1-(i:Int)=(r:Int):=oO;have p:n<=4096:=oO;clear h a b hn o;go_enter Tryz.func199,Tryz.ntmps199;go_wp2;go_ret;exact⟨rfl,rfl⟩
theorem DS.drew {k:DK} {wr:World} {a b c d:Value} {e:List Nat} (h:DS k wr a b c d e):DS k wr.drew a b c d e:=h.below (ai (Below.refl _ _))
theorem aY {P:Program} {c:Array Oper} {S:World->Prop} {K:Act->World->Prop} {a:Act} {w:World} {r:List (Bool×Nat×Oper)} {k:Nat} {b:Oper} (hg:Region.wanted b (yielded c a.tmps)=true) {w':World} (d:(execOp a.eval b).run P w= .ok .skip w') (e:S w') (h:bC P c S K r (a.put b.dst undef) w'):bC P c S K ((true,k,b)::r) a w:=
 .inl ⟨hg,by rw[d];exact⟨e,h⟩⟩
theorem kx {a:Act} {b:Oper} {W:World} {x q:Operand} (d:b.op= .store 64 q x) (p:Addr) (A:Option Addr) (n c:Nat) (hq:a.eval q= .pointer (some p)) (e:a.eval x= .slice A n c) {u:Value} (hc:W.cell? p=some u) (f:W.frozen? p=false):
 (execOp a.eval b).run Tryz.prog W= .ok .skip (W.setCell p (.slice A n c)):=by
 unfold execOp;simp only[d,hq,e,Instr.storeAt,Instr.sureAddr,Sem.run_bind,Sem.run_pure,Result.andThen_ok];go_simp
theorem EN {k:DK} {wr:World} {b f g l:Value} {m:List Nat} (h:DS k wr b f g l m) {i:Nat} {A:Option Addr} {n c:Nat} (o:wr.cell? ⟨k.db,i,none⟩=some (.slice A n c)) (u:Value) {x:Value} {xs:List Int} (p:aq wr x xs):aq (wr.setCell ⟨k.db,i,none⟩ u) x xs:=by
 obtain⟨B,d,rfl,q,r,s⟩:=p;refine⟨B,d,rfl,q,r,λhn=>?_⟩;obtain⟨t,e,hl,hc⟩:=s hn;refine⟨t,e,by simpa using hl,λj a=>?_⟩;rw[World.cell?_setCell_other wr _ _ u (λe2=>?_)]
 ·exact hc j a
 ·have:=hc j a;rw[<-e2,o]at this;injection this with this;cases this
theorem BW (k:DK) (j b d f:Value) (a:List Nat) (w:World) (h:DS k w j b d f a) (F:AY j):
 Calls Tryz.prog 160 #[.pointer (some ⟨k.db,0,none⟩)] w λe w'=>e= .returned (.bool true)/\∃v,DS k w' v b d f a/\aq w' v (zl (bp k.S k.P k.par k.first a)):=by
 have p:=Lib.hid h;have z:=h.ok.vf.le;have x:=h.ok.p1;have G:=h.ok.p2;have H:=h.ok.f2;have J:=h.ok.n2
 have r:Hid (∀W,(∃v,DS k W v b d f a)->(W.cell? ⟨k.db,0,none⟩=some (.int .i64 k.C)/\W.cell? ⟨k.db,1,none⟩=some (.int .i64 k.S)/\W.cell? ⟨k.db,2,none⟩=some (.slice (some ⟨k.be,0,none⟩) (k.S-1) (k.S-1))/\W.cell? ⟨k.db,3,none⟩=some (.slice (some ⟨k.bl,0,none⟩) k.S k.S))/\
  (W.cell? ⟨k.db,4,none⟩=some (.int .i64 k.C)/\W.cell? ⟨k.db,5,none⟩=some (.int .i64 k.S)/\W.cell? ⟨k.db,6,none⟩=some (.int .i64 k.P)/\W.cell? ⟨k.db,7,none⟩=some (.int .i64 k.par)/\W.cell? ⟨k.db,8,none⟩=some (.int .i64 k.first))/\
  (W.cell? ⟨k.db,9,none⟩=some (.slice (some ⟨k.wb,0,none⟩) k.n k.cw)/\W.cell? ⟨k.db,11,none⟩=some (.int .i64 0))):=by
  show∀W,_;rintro W ⟨v,g⟩;obtain⟨B,C,⟨D,L,E⟩,M⟩:=g.cells;exact⟨B,C,D,E⟩
 have y:Hid (∀W,(∃v,DS k W v b d f a)->Calls Tryz.prog 197 #[fm k.C k.S k.be k.bl,cf k.C k.S k.P k.par k.first,.slice (some ⟨k.wb,0,none⟩) k.n k.cw] W λe w'=>∃v,e= .returned v/\aq w' v (zl (bp k.S k.P k.par k.first a))/\Below W.heap.size W w'):=by
  show∀W,_;rintro W ⟨v,g⟩;exact yj k.C k.S k.P k.be k.bl k.par k.first a _ k.n k.cw W g.ok.vf g.lt g.hw oO x oO oO g.T g.J8
 clear h x G H J z;go_enter Tryz.func160,Tryz.ntmps160;go_wp2;refine yO (λW=>∃v,DS k W v b d f a) [1,2,3,4,5,6,7,8,9,10,11,12,13,0,14,0,15,16,0,17] ⟨j,p.out.drew⟩ ?_
 repeat refine zO r.out ?_
 refine zZ ?_;refine(y.out _ ⟨j,p.out.drew⟩).mono ?_;rintro e q ⟨v,rfl,u,hb⟩;have i:Hid (DS k q j b d f a):=p.out.drew.below hb;have s:=Lib.hid u;clear u hb p;refine⟨_,rfl,⟨j,i.out⟩,jO ?_⟩
 repeat refine zO r.out ?_
 obtain⟨l,m,o,rfl⟩:∃A n c,v= .slice A n c:=by obtain⟨A,c,e,-⟩:=s.out;exact⟨_,_,_,e⟩
 have t:Hid (DS k (q.setCell ⟨k.db,12,none⟩ (.slice l m o)) (.slice l m o) b d f a):=i.out.store 12 _ rfl;have K:Hid (aq (q.setCell ⟨k.db,12,none⟩ (.slice l m o)) (.slice l m o) (zl (bp k.S k.P k.par k.first a))):=by
  obtain⟨N,O,cz,rfl⟩:=F;exact EN i.out i.out.cells.2.2.2.1.1 _ s.out
 refine' aY rfl (kx rfl ⟨k.db,12,none⟩ l m o rfl rfl i.out.cells.2.2.2.1.1 (i.out.cells.2.2.2.2 12)) ⟨_,t.out⟩ ?_;simp only[Act.put];refine ag ?_;generalize q.setCell ⟨k.db,12,none⟩ (.slice l m o)=P at*;clear i s y r;obtain⟨-,⟨-,-,-,Q,-⟩,⟨-,-,S⟩,-⟩:=t.out.cells;go_wp2;go_quiet (fail)
 go_wp2;go_ret;exact⟨rfl,_,t.out.below (bX (Below.refl _ _) _),K.out.below (bX (Below.refl _ _) _)⟩
def dO (w w':World):Prop:=∀x xs,aq w x xs->aq w' x xs
theorem dO.trans {a b c:World} (h:dO a b) (g:dO b c):dO a c:=λx xs d=>g x xs (h x xs d)
theorem dO.below {a b:World} (h:Below a.heap.size a b):dO a b:=λx xs d=>d.below h
theorem dO.store {k:DK} {wr:World} {a b d e:Value} {f:List Nat} (h:DS k wr a b d e f) {i:Nat} {A:Option Addr} {n c:Nat} (g:wr.cell? ⟨k.db,i,none⟩=some (.slice A n c)) (u:Value):dO wr (wr.setCell ⟨k.db,i,none⟩ u):=λx xs j=>EN h g u j
section
variable {c s p : Nat} (h : VF c s p)
include h
theorem nG:aj s [1]:=λi=>by
 have a:=h.aG
 match i with
 |0=>show 1<s;omega
 |i+1=>show([1]:List Nat).getD (i+1) 0<s;simp[List.getD];omega
theorem xf:co h [1]=ff 1:=by
 funext i;unfold co ff
 match i with
 |0=>exact ik h
 |i+1=>rw[if_neg oO];exact aZ h
theorem GZ {a:List Nat} (hs:aj s a) {n:Nat} (hn:a.length=n):cE s p a [1] n a.length 0=a:=by
 refine cD (by rw[eo,hn]) λj b=>?_;rw[eo]at b;refine fy h (j7 h _ _ _ _ _ j) (hs j) ?_;have:=p6 h hs (nG h) b;rw[gf,xf,kE,dB]at this;exact this
theorem Ma {q:List Nat} (hq:aj s q) {n:Nat} (hn:q.length=n):cE s p [1] q n 1 0=q:=by
 refine cD (by rw[eo,hn]) λj a=>?_;rw[eo]at a;refine fy h (j7 h _ _ _ _ _ j) (hq j) ?_;have:=p6 h (nG h) hq a;rw[xf,kE,dB]at this;exact this
end
theorem He (k:DK) (g j l m:Value) (n:List Nat) (w:World) (h:DS k w g j l m n) (t:AY j):
 Calls Tryz.prog 161 #[.pointer (some ⟨k.db,0,none⟩)] w λe w'=>e= .returned (.bool true)/\∃v,DS k w' g v l m n/\aq w' v (zl [1])/\dO w w':=by
 obtain⟨C,n2,D,rfl⟩:=t;have a:=Lib.hid (h.below (ax w (.cells #[.int .i64 1] 3)));have u:Hid (aq (w.alloc (.cells #[.int .i64 1] 3)) (.slice (some ⟨w.heap.size,0,none⟩) 1 1) (zl [1])):=aq.lit _ [1] 3 _ 1 rfl rfl oO;have x:Hid (dO w (w.alloc (.cells #[.int .i64 1] 3))):=dO.below (ax _ _);have d:=Lib.hid (a.out.store 13 (.slice (some ⟨w.heap.size,0,none⟩) 1 1) rfl);have o:=Lib.hid (dO.store a.out a.out.cells.2.2.2.1.2.1 (.slice (some ⟨w.heap.size,0,none⟩) 1 1));have y:=a.out.cells.2.2.2.1.2.1;have q:=a.out.cells.2.2.2.2 13;obtain⟨-,-,⟨-,z,-⟩,-⟩:=d.out.cells;have f:=h.ok;have H:k.n<=4096:=by have:=f.n2;have:=f.vf.le;omega
 clear h f;go_enter Tryz.func161,Tryz.ntmps161;go_wp2;clear y q;generalize r:(w.alloc (.cells #[.int .i64 1] 3)).setCell ⟨k.db,13,none⟩ (.slice (some ⟨w.heap.size,0,none⟩) 1 1)=E at*;clear r z;have J:0<=k.n:=Nat.zero_le _;go_loop [14] (λb=>∃i:Nat,i<=k.n/\b= .int .i64 i) (λb=>k.n-(intOf b).toNat)
 case atStart=>exact⟨0,Nat.zero_le _,rfl⟩
 case round=>
  obtain⟨i,F,rfl⟩:=hrel;by_cases A:i<k.n
  ·have G:=d.out.E.2 i A;go_wp2;exact⟨⟨i+1,by omega,by go_num⟩,by simp[intOf];omega⟩
  ·have B:i=k.n:=oO;subst B;go_wp2;go_ret;exact⟨rfl,_,d.out,o.out _ _ u.out,x.out.trans o.out⟩
def vC (k:DK) (a:VF k.C k.S k.P) (e f g:Value) (d:List Nat) (w w':World) (b:Bool):Prop:=
 ∃(q:List Nat) (L:Nat),b=decide (2* (q.length-1)<=k.par)/\aj k.S q/\cG q/\1<=q.length/\q.length<=k.par+1/\iK a (co a (bp k.S k.P k.par k.first d)) k.par (co a q) L/\∃v,DS k w' e f v g d/\aq w' v (zl q)/\dO w w'
theorem DU (k:DK) (j l T g:Value) (d:List Nat) (w:World) (h:DS k w j l T g d) (y:aq w j (zl (bp k.S k.P k.par k.first d))) (E:aq w l (zl [1])) (bv:AY T):
 Calls Tryz.prog 162 #[.pointer (some ⟨k.db,0,none⟩)] w λe w'=>∃b,e= .returned (.bool b)/\vC k h.ok.vf j l g d w w' b:=by
 have a:=h.ok.vf;have a7:=a.le;have ad:=h.ok.p1;have bx:=h.ok.p2;obtain⟨f,B⟩:∃f,f=bp k.S k.P k.par k.first d:=⟨_,rfl⟩;have C:f.length=k.par:=by rw[B];unfold bp;simp
 have H:aj k.S f:=by rw[B];exact pU a h.lt
 have bz:Hid (∀w' b,(∃(q:List Nat) (L:Nat),b=decide (2* (q.length-1)<=k.par)/\aj k.S q/\cG q/\1<=q.length/\q.length<=k.par+1/\iK a (co a f) k.par (co a q) L/\∃v,DS k w' j l v g d/\aq w' v (zl q)/\dO w w')->vC k a j l g d w w' b):=by
  rw[B];exactλw' b h=>h
 have b6:h.ok.vf=a:=rfl;rw[<-B]at y;show Calls _ _ _ _ λe w'=>∃b,e= .returned (.bool b)/\vC k a j l g d w w' b;clear b6;generalize b1:vC k a j l g d w=b7 at*;clear b1;obtain⟨n,c1,rfl,a8,a9,U⟩:=aq.nat y;obtain⟨o,r,rfl,bb,bd,V⟩:=aq.nat E;obtain⟨b8,n3,b9,rfl⟩:=bv;rw[C]at h;have J:=Lib.hid h
 have z:Hid (∀W,(∃v,DS k W (.slice n k.par c1) (.slice o 1 r) v g d)->(W.cell? ⟨k.db,0,none⟩=some (.int .i64 k.C)/\W.cell? ⟨k.db,1,none⟩=some (.int .i64 k.S)/\W.cell? ⟨k.db,2,none⟩=some (.slice (some ⟨k.be,0,none⟩) (k.S-1) (k.S-1))/\W.cell? ⟨k.db,3,none⟩=some (.slice (some ⟨k.bl,0,none⟩) k.S k.S))/\
  (W.cell? ⟨k.db,7,none⟩=some (.int .i64 k.par)/\W.cell? ⟨k.db,11,none⟩=some (.int .i64 0)/\W.cell? ⟨k.db,12,none⟩=some (.slice n k.par c1)/\W.cell? ⟨k.db,13,none⟩=some (.slice o 1 r))):=by
  show∀W,_;rintro W ⟨v,be⟩;obtain⟨y,⟨-,-,-,E,-⟩,⟨-,-,bf⟩,⟨bi,bo,-,-⟩,-⟩:=be.cells;exact⟨y,E,bf,bi,bo⟩
 have al:Hid (Calls Tryz.prog 200 #[fm k.C k.S k.be k.bl,.slice n k.par c1,.slice o 1 r,.int .i64 k.par] w.drew λe w'=>∃v,e= .returned v/\aq w' v (zl f)/\Below w.drew.heap.size w.drew w'):=by
  show Calls _ _ _ _ _;have:=rD k.C k.S k.P k.be k.bl k.par f [1] n o k.par 1 c1 r w.drew a H (nG a) C.symm rfl oO oO ad oO h.drew.T (U.below (ai (Below.refl _ _))) (V.below (ai (Below.refl _ _)));rw[GZ a H C]at this;exact this
 have cr:k.par<=4094:=oO;have b2:=Lib.hid H;have D:=Lib.hid C;clear y E a8 a9 U bb bd V a7 bx H C B;go_enter Tryz.func162,Tryz.ntmps162;go_wp2;refine yO (λW=>∃v,DS k W (.slice n k.par c1) (.slice o 1 r) v g d) [1,2,3,4,5,6,7,8,9,10,11,12,13,14,15,16,17,0,18,0,19] ⟨_,J.out.drew⟩ ?_
 repeat refine zO z.out ?_
 refine zZ ?_;refine al.out.mono ?_;rintro e F ⟨v1,rfl,am,N⟩;obtain⟨ca,X,rfl,cp,oZ,ap⟩:=aq.nat am;rw[D.out];have x:=Lib.hid (J.out.drew.below N);have av:Hid (dO w F):=dO.below ((ai (Below.refl _ _)).trans N);obtain⟨K,rfl,a5,a0⟩:=ap (by rw[ak,D.out];exact ad);have cs:k.par<=X:=by rw[<-D.out];assumption
 have a6:RD F (some K) (zl f):=λ_=>⟨K,rfl,a5,a0⟩;have a1:=Lib.hid a6;clear am N ap al a5 a0 a6;refine⟨_,rfl,⟨_,x.out⟩,jO ?_⟩
 repeat refine zO z.out ?_
 refine ag ?_;go_wp2;refine yO (λW=>∃v,DS k W (.slice n k.par c1) (.slice o 1 r) v g d) [1,2,3,4,5,6,7,8,9,10,0,11,12,0,13,14,0,15] ⟨_,x.out.drew⟩ ?_
 repeat refine zO z.out ?_
 refine' zQ (w':=F.drew) rfl (by go_simp;rfl) ⟨_,x.out.drew⟩ ?_;refine zZ ?_;refine(Ba k.C k.S k.P k.be k.bl f (some K) k.par X F.drew a b2.out D.out.symm oO x.out.drew.T (a1.out.below (ai (Below.refl _ _)))).mono ?_;rintro e Y ⟨cb,rfl,q,L,O,Z,ab,bq,bs,ac,P⟩;obtain⟨t,u,rfl,ce,cg,bt⟩:=aq.nat O;have i:=Lib.hid (x.out.drew.below P);have a2:Hid (dO w Y):=av.out.trans (dO.below ((ai (Below.refl _ _)).trans P));have a3:=Lib.hid O;have M:Hid (aj k.S q/\cG q/\iK a (co a f) k.par (co a q) L):=⟨Z,ab,ac⟩;clear O bt P a1 av x J Z ab ac;refine⟨_,rfl,⟨_,i.out⟩,jO ?_⟩
 repeat refine zO z.out ?_
 have Q:=Lib.hid (i.out.store 14 (.slice t q.length u) rfl);have b3:=Lib.hid (a2.out.trans (dO.store i.out i.out.cells.2.2.2.1.2.2.1 (.slice t q.length u)));have b4:=Lib.hid (EN i.out i.out.cells.2.2.2.1.2.2.1 (.slice t q.length u) a3.out);refine' aY rfl (kx rfl ⟨k.db,14,none⟩ t q.length u rfl rfl i.out.cells.2.2.2.1.2.2.1 (i.out.cells.2.2.2.2 14)) ⟨_,Q.out⟩ ?_;simp only[Act.put];refine ag ?_;generalize Y.setCell ⟨k.db,14,none⟩ (.slice t q.length u)=ch at*;obtain⟨-,⟨-,-,-,ci,-⟩,⟨-,-,cq⟩,⟨-,-,b5,-⟩,-⟩:=Q.out.cells;obtain⟨m,G⟩:∃m,q.length=m+1:=⟨q.length-1,by omega⟩;have A:=Lib.hid G;rw[G]at b5 bs;rw[G];have e1:IntKind.i64.wrap (((m+1:Nat):Int)-1)=(m:Int):=by rw[aE _ oO oO];omega
 have e2:IntKind.i64.wrap (2* (m:Int))=((2* m:Nat):Int):=by rw[aE _ oO oO];omega
 have e4:wrap64 ((2* m:Nat):Int)=((2* m:Nat):Int):=by unfold wrap64;omega
 have S:Hid (2* m=2* m):=rfl;clear i a3 a2 z G bq
 revert S
 generalize a4:2* m=ck at*;intro _;have S:=Lib.hid a4;clear a4;go_wp2;go_quiet (fail)
 go_wp2;go_ret;refine⟨_,rfl,bz.out _ _ ⟨q,L,?_,M.out.1,M.out.2.1,by rw[A.out];omega,by rw[A.out];omega,M.out.2.2,.slice t (m+1) u,?_,?_,?_⟩⟩
 ·rw[A.out,Nat.add_sub_cancel,S.out]
 ·have:=Q.out;rw[A.out]at this;rw[D.out];exact this.below (bX (Below.refl _ _) _)
 ·have:=b4.out;rw[A.out]at this;exact this.below (bX (Below.refl _ _) _)
 ·exact b3.out.trans (dO.below (bX (Below.refl _ _) _))
theorem RD.grown {w W:World} {A:Option Addr} {xs:List Int} {row:Option Nat} (h:RD w A xs) (hg:w.grownBy W row) (b:∀a,A=some a->some a.block≠row):RD W A xs:=λhn=>by
 obtain⟨a,e,hl,hc⟩:=h hn;refine⟨a,e,Nat.lt_of_lt_of_le hl hg.size,λj c=>?_⟩;rw[hg.cell_far (a.add j) (by rw[aI];exact hl) (by rw[aI];exact b a e)];exact hc j c
theorem dO.grown {w wr W:World} {row:Option Nat} (d:dO w wr) (hg:wr.grownBy W row) (l:∀q,row=some q->w.heap.size<=q):dO w W:=λx xs a=>by
 obtain⟨A,c,e,f,g,i⟩:=d x xs a;obtain⟨m,n,b,-,-,k⟩:=a;rw[e]at b;injection b with e1 e2 e3;subst e1;refine⟨A,c,e,f,g,λhn=>?_⟩;obtain⟨p,j,r,-⟩:=k hn
 exact i.grown hg (λo e4 e5=>by
  rw[j]at e4;injection e4 with e4;subst e4;have:=l _ e5.symm
  omega) hn
theorem DS.grown {k:DK} {wr W:World} {a b c d:Value} {e:List Nat} {row:Option Nat} (h:DS k wr a b c d e) (hg:wr.grownBy W row) (f:∀q,row=some q->k.M<=q):DS k W a b c d e:=
 h.Ft ((Below.refl _ _).grown hg h.sz f) hg.size
theorem uc (C S P a bl x:Nat) (l:List Nat) (n:Nat) (i:n=l.length) (A:Option Addr) (b:Nat) (w:World) (c:VF C S P) (d:x<S) (hl:aj S l) (hn:n<=4097) (f:dg w S P a bl) (g:RD w A (zl l)):
 Calls Tryz.prog 202 #[fm C S a bl,.slice A n b,.int .i64 x] w λe w'=>e= .returned (.int .i64 ((hornN S P x l:Nat):Int))/\Below w.heap.size w w':=by
 subst i;exact Ep C S P a bl x l A b w c d hl hn f g
noncomputable def fI (s p n:Nat) (q:List Nat) (i:Nat):List Nat:=(List.range i).filter λj=>hornN s p (fF s p n j) q==0
theorem Aa {s p n:Nat} {q:List Nat} {i:Nat} (h:hornN s p (fF s p n i) q=0):fI s p n q (i+1)=fI s p n q i++[i]:=by
 unfold fI;rw[List.range_succ,List.filter_append];simp[h]
theorem C9 {s p n:Nat} {q:List Nat} {i:Nat} (h:hornN s p (fF s p n i) q≠0):fI s p n q (i+1)=fI s p n q i:=by
 unfold fI;rw[List.range_succ,List.filter_append];simp[h]
def va (k:DK) (d e f:Value) (g q:List Nat) (w w':World) (b:Bool):Prop:=
 b=decide ((dC k.S k.P k.n q).length=q.length-1)/\∃v,DS k w' d e f v g/\aq w' v (zl (dC k.S k.P k.n q))/\(∀A n c a,v= .slice A n c->A=some a->a.block≠k.wb)/\dO w w'
theorem ES (k:DK) (o p N:Value) (r q:List Nat) (w:World) (h:DS k w o p N (.slice none 0 0) r) (O:aq w N (zl q)) (hq:aj k.S q) (d1:1<=q.length) (a4:q.length<=4097):
 Calls Tryz.prog 163 #[.pointer (some ⟨k.db,0,none⟩)] w λe w'=>∃b,e= .returned (.bool b)/\va k o p N r q w w' b:=by
 obtain⟨bq,bs,cb,ce,cg⟩:=info_parts bZ;have C:=h.ok.vf;have c5:=C.le;have d2:=C.aG;have ch:=h.ok.n2;obtain⟨t,u,rfl,bt,bv,bx⟩:=aq.nat O;have bz:=Lib.hid hq;have d3:Hid (∀w' b,va k o p (.slice t q.length u) r q w w' b->va k o p (.slice t q.length u) r q w w' b):=λw' b h=>h;obtain⟨m,P⟩:∃m,q.length=m+1:=⟨q.length-1,by omega⟩;have Q:=Lib.hid P;rw[P]at h a4;have b1:=Lib.hid h;have ci:=Lib.hid O;have a5:Hid (k.M<=w.heap.size):=h.sz;obtain⟨-,-,⟨-,a6,-⟩,-⟩:=h.cells;obtain⟨l,a0⟩:∃l,l=k.S-1:=⟨_,rfl⟩;have d4:IntKind.i64.wrap ((k.S:Int)-1)=(l:Int):=by rw[aE _ oO oO];omega
 have ck:k.n<=l:=oO;have d5:l<=4095:=oO;have b2:=Lib.hid a0;obtain⟨n,hn⟩:∃n,n=k.n:=⟨_,rfl⟩;rw[<-hn]at a6 ck;have z:=Lib.hid hn;generalize a7:va k o p (.slice t q.length u) r q w=c6 at*;have co:=Lib.hid a7;clear h O hq bt bv bx P ch a0 hn a7;go_enter Tryz.func163,Tryz.ntmps163;go_wp2;clear a6;go_loopw [3,12] (λb3 S wr=>∃i f:Nat,i<=n/\f<=i/\S= .int .i64 i/\b3= .int .i64 f/\Hid (f=(fI k.S k.P n q i).length)/\Hid (∃T,DS k wr o p (.slice t (m+1) u) T r/\wr.ownsRow w.heap.size 3 1 T f ((fI k.S k.P n q i).map vN))/\Hid (dO w wr)/\Hid (w.heap.size<=wr.heap.size)) (λ_ S _=>n-(intOf S).toNat)
 case atStart=>exact⟨0,0,Nat.zero_le _,Nat.le_refl _,rfl,rfl,rfl,⟨_,b1.out,World.ownsRow_nil _ _ _ _⟩,λx xs U=>U,Nat.le_refl _⟩
 case round=>
  obtain⟨i,f,d6,d7,rfl,rfl,V,⟨T,a1,X⟩,H,ab⟩:=hrel;have a:=Lib.hid a1;have K:=Lib.hid X;obtain⟨b4,b5,rfl⟩:=cd X;clear a1 X;by_cases a8:i<n
  ·have U:=a.out.E.2 i (by rw[<-z.out];exact a8);obtain⟨B,ac⟩:∃B,B=n-1-i:=⟨_,rfl⟩;obtain⟨x,a9⟩:∃x,x=l-B:=⟨_,rfl⟩;have d8:IntKind.i64.wrap ((l:Int)-(B:Int))=(x:Int):=by rw[aE _ oO oO];omega
   obtain⟨v,D⟩:∃v,v=fF k.S k.P n i:=⟨_,rfl⟩;have cp:Hid (bV k.S k.P x=v):=by show _=_;rw[D,a9,ac,b2.out];rfl
   have cq:Hid (v<k.S):=by show _<_;rw[D];exact dD C _
   have cr:Hid (k.n-1-i=B):=by show _=_;rw[ac,z.out]
   have cs:x<=100000000:=oO;obtain⟨s,L⟩:∃s,s=hornN k.S k.P v q:=⟨_,rfl⟩;have Y:Hid (s=0->fI k.S k.P n q (i+1)=fI k.S k.P n q i++[i]):=by show _->_;intro e;exact Aa (by rw[<-D,<-L];exact e)
   have ad:Hid (s≠0->fI k.S k.P n q (i+1)=fI k.S k.P n q i):=by show _->_;intro e;exact C9 (by rw[<-D,<-L];exact e)
   have cv:=Lib.hid L;have j:Hid (∀W,af wr W->(W.cell? ⟨k.db,0,none⟩=some (.int .i64 k.C)/\W.cell? ⟨k.db,1,none⟩=some (.int .i64 k.S)/\W.cell? ⟨k.db,2,none⟩=some (.slice (some ⟨k.be,0,none⟩) (k.S-1) (k.S-1))/\W.cell? ⟨k.db,3,none⟩=some (.slice (some ⟨k.bl,0,none⟩) k.S k.S))/\W.cell? ⟨k.db,14,none⟩=some (.slice t (m+1) u)):=by
    show∀W,_;intro W b6;obtain⟨a2,-,-,⟨-,-,b7,-⟩,-⟩:=(a.out.below b6).cells;exact⟨a2,b7⟩
   clear ac a9 D L;go_wp2;clear U;refine yO (af wr) [1,2,3,4,5,6,7,8,9,10,11,12,0,13,0,14,0,15,0,16] (ai (Below.refl _ _)) ?_
   repeat refine zO j.out ?_
   refine zZ ?_;refine(yv k o p _ _ r i _ a.out.drew (by rw[<-z.out];exact a8)).mono ?_;rintro e c7 ⟨rfl,rfl⟩;rw[cr.out];refine⟨_,rfl,(ai (Below.refl _ _)),jO ?_⟩
   repeat refine zO j.out ?_
   refine zZ ?_;refine(lF k.C k.S k.P k.be k.bl x _ C cs a.out.drew.T).mono ?_;rintro e b8 ⟨rfl,bb⟩;rw[cp.out];have y:Hid (af wr b8):=(ai (Below.refl _ _)).trans bb;clear bb;refine⟨_,rfl,y.out,jO ?_⟩
   repeat refine zO j.out ?_
   refine ag ?_;go_wp2;refine yO (af wr) [1,2,3,4,5,6,7,8,9,10,11,12,0,13,0,14,15] (ai y.out) ?_
   repeat refine zO j.out ?_
   repeat refine zX j.out ?_
   refine zZ ?_;have bd:=H.out _ _ ci.out;refine(uc k.C k.S k.P k.be k.bl v q (m+1) Q.out.symm t u _ C cq.out bz.out a4 (a.out.below (ai y.out)).T ?_).mono ?_
   ·obtain⟨c8,c9,e,-,-,Z⟩:=bd.below (ai y.out);injection e with e1 e2 e3;rw[e1];exact Z
   rintro e J ⟨rfl,be⟩;rw[<-cv.out];have E:Hid (af wr J):=(ai y.out).trans (be.mono (ai y.out).size);clear be bd;refine⟨_,rfl,E.out,jO ?_⟩
   repeat refine zX j.out ?_
   repeat refine zO j.out ?_
   refine ag ?_;have al:=Lib.hid (a.out.below E.out);have M:=Lib.hid (ao K.out E.out);have bf:Hid (dO w J):=H.out.trans (dO.below E.out);have bi:=E.out.size;have am:=Lib.hid bi;have d9:=al.out.cells.2.2.2.1.2.2.2;clear bi H a K j;by_cases bo:s=0
   ·have b9:((s:Int)==0)=true:=by rw[beq_iff_eq];omega
    have F:=Lib.hid (Y.out bo);have ea:f<=4096:=oO;clear Y ad;go_wp2_with(at_builtin;refine bg (f:=vN) (d:=0) qy rfl _ _ _ rfl w.heap.size 3 bq _ 8 Tryz.underlying64 bs cb ce cg rfl _ f (fI k.S k.P n q i) rfl (M.out.alloc _) (some ⟨J.heap.size,0,none⟩) 1 1 [i] rfl rfl (RG.one _ _ _ _ rfl) oM oO (by have:=ab.out;have:=am.out;simp;omega) ?_;intro di a3 av hg;obtain⟨dl,ds,rfl⟩:=cd av;have G:=Lib.hid ((al.out.below (ax _ _)).grown hg (λg ap=>Nat.le_trans a5.out (M.out.lt g ap).1));have cx:Hid (dO w a3):=(bf.out.trans (dO.below (ax _ _))).grown hg (λg ap=>(M.out.lt g ap).1);have cy:=Lib.hid av;have c2:=G.out.cells.2.2.2.1.2.2.2;have dv:=G.out.cells.2.2.2.2 15;have c3:Hid (J.heap.size<=a3.heap.size):=Nat.le_trans oS hg.size;clear av hg)
    refine⟨⟨i+1,f+1,by omega,by omega,by go_num,by go_num,?_,⟨_,G.out.store 15 _ rfl,?_⟩,cx.out.trans (dO.store G.out c2 _),by have:=c3.out;have:=ab.out;have:=am.out;show _<=_;simp;omega⟩,by simp[intOf];omega⟩
    ·show _=_;rw[F.out,List.length_append,<-V.out];rfl
    ·rw[F.out];exact By cy.out ⟨k.db,15,none⟩ G.out.R.tag oD _
   ·have b9:((s:Int)==0)=false:=by rw[beq_eq_false_iff_ne];omega
    have F:=Lib.hid (ad.out bo);clear Y ad;go_wp2;exact⟨⟨i+1,f,by omega,by omega,by go_num,rfl,by rw[F.out];exact V.out,⟨_,al.out,by rw[F.out];exact M.out⟩,bf.out,Nat.le_trans ab.out am.out⟩,by simp[intOf];omega⟩
  ·obtain rfl:i=n:=oO;have ec:=a.out.cells.2.2.2.1.2.2.1;have ca:Hid (f=(dC k.S k.P k.n q).length):=by show _=_;rw[V.out,<-z.out];rfl
   have e1:(((m+1:Nat):Int)-1)=(m:Int):=oO;have c4:Hid (aq wr (.slice b4 f b5) (zl (dC k.S k.P k.n q))):=by
    show aq _ _ _;have:=SG.bK (f:=vN) (d:=0) K.out;have Z:=aq.vc this;rw[<-z.out];exact Z
   go_wp2;go_ret;refine⟨_,rfl,?_⟩;rw[<-co.out];refine⟨?_,_,by rw[Q.out];exact a.out,c4.out,?_,H.out⟩
   ·rw[Q.out,Nat.add_sub_cancel,<-ca.out]
    first
     |rfl
     |(rw[Bool.eq_iff_iff];simp;exact Int.ofNat_inj)
   ·intro A dx c dy e1 e2;injection e1 with e3 e4 e5;subst e3;subst e2;rcases K.out.2 with⟨e6,-⟩|⟨g,cap,ed,e6,ef,-⟩
    ·injection e6 with e7;cases e7
    ·injection e6 with e7;injection e7 with e7;have a2:=a.out.ok.m.2.2.1;have d0:=a5.out;rw[e7];show g≠k.wb;omega
theorem KL (k:DK) (a b c d:Value) (f:List Nat) (i:Nat) (w:World) (h:DS k w a b c d f) (g:i<k.n):
 Calls Tryz.prog 199 #[.pointer (some ⟨k.db,0,none⟩),.int .i64 i] w λe w'=>e= .returned (.int .i64 ((k.n-1-i:Nat):Int))/\Below w.heap.size w w':=
 (yv k a b c d f i w h g).mono λe w' ⟨j,l⟩=>⟨j,by rw[l];exact Below.refl _ _⟩
theorem sB {s p par first:Nat} {w:List Nat}:(bp s p par first w).all (·==0)=true↔∀j,j<par->fL s p first w j=0:=by
 unfold bp;rw[List.all_map,List.all_eq_true];constructor
 ·intro h j a;simpa using h j (List.mem_range.2 a)
 ·intro h j a;simpa using h j (List.mem_range.1 a)
theorem GH (k:DK) (G H J K:Value) (b:List Nat) (w:World) (h:DS k w G H J K b):
 Calls Tryz.prog 165 #[.pointer (some ⟨k.db,0,none⟩)] w λe w'=>e= .returned (.bool ((bp k.S k.P k.par k.first b).all (·==0)))/\Below w.heap.size w w':=by
 have L:=Lib.hid h;have M:=h.ok.vf.le;have z:=h.ok.p1;have Y:=h.ok.p2;have Z:=h.ok.f2;have ab:=h.ok.n2
 have t:Hid (∀W,af w W->(W.cell? ⟨k.db,0,none⟩=some (.int .i64 k.C)/\W.cell? ⟨k.db,1,none⟩=some (.int .i64 k.S)/\W.cell? ⟨k.db,2,none⟩=some (.slice (some ⟨k.be,0,none⟩) (k.S-1) (k.S-1))/\W.cell? ⟨k.db,3,none⟩=some (.slice (some ⟨k.bl,0,none⟩) k.S k.S))/\
  (W.cell? ⟨k.db,4,none⟩=some (.int .i64 k.C)/\W.cell? ⟨k.db,5,none⟩=some (.int .i64 k.S)/\W.cell? ⟨k.db,6,none⟩=some (.int .i64 k.P)/\W.cell? ⟨k.db,7,none⟩=some (.int .i64 k.par)/\W.cell? ⟨k.db,8,none⟩=some (.int .i64 k.first))/\
  (W.cell? ⟨k.db,9,none⟩=some (.slice (some ⟨k.wb,0,none⟩) k.n k.cw))):=by
  show∀W,_;intro W N;obtain⟨g,O,⟨P,ad,al⟩,am⟩:=(L.out.below N).cells;exact⟨g,O,P⟩
 have n:Hid (Calls Tryz.prog 197 #[fm k.C k.S k.be k.bl,cf k.C k.S k.P k.par k.first,.slice (some ⟨k.wb,0,none⟩) k.n k.cw] w.drew λe w'=>∃v,e= .returned v/\aq w' v (zl (bp k.S k.P k.par k.first b))/\Below w.drew.heap.size w.drew w'):=
  yj k.C k.S k.P k.be k.bl k.par k.first b _ k.n k.cw w.drew h.ok.vf h.lt h.hw oO z oO oO h.drew.T h.drew.J8
 have a1:k.par<=4094:=oO;obtain⟨a,o⟩:∃a,a=bp k.S k.P k.par k.first b:=⟨_,rfl⟩;have f:Hid (a.length=k.par):=by show _=_;rw[o];unfold bp;simp
 rw[<-o]at n⊢;clear h z Y Z ab M o;go_enter Tryz.func165,Tryz.ntmps165;go_wp2;refine yO (af w) [1,2,3,4,5,6,7,8,9,10,11,12,15,0,13,0,14] (ai (Below.refl _ _)) ?_
 repeat refine zO t.out ?_
 refine zZ ?_;refine n.out.mono ?_;rintro e Q ⟨v1,rfl,B,C⟩;obtain⟨A,c,rfl,-,-,u⟩:=aq.nat B;rw[f.out];have p:Hid (af w Q):=(ai (Below.refl _ _)).trans C;have S:=Lib.hid u;clear B C u n;refine⟨_,rfl,p.out,jO ?_⟩
 repeat refine zO t.out ?_
 refine ag ?_;go_wp2;go_loop [19] (λl=>∃i:Nat,i<=k.par/\l= .int .i64 i/\Hid (∀j,j<i->a.getD j 0=0)) (λl=>k.par-(intOf l).toNat)
 case atStart=>exact⟨0,Nat.zero_le _,rfl,λj m=>by omega⟩
 case round=>
  obtain⟨i,ap,rfl,y⟩:=hrel;by_cases D:i<k.par
  ·obtain⟨av,rfl,a2,E⟩:=S.out (by rw[ak,f.out];omega);have T:=E i (by rw[ak,f.out];exact D);rw[bw]at T;have s:Hid (a.getD i 0≠0->a.all (·==0)=false):=by
    show _->_;intro e;exact all_false (d:=0) (by rw[f.out];exact D) (by simpa using e)
   have q:Hid (a.getD i 0=0->∀j,j<i+1->a.getD j 0=0):=by
    show _->_;intro e j m;rcases Nat.lt_or_ge j i with g|g
    ·exact y.out j g
    ·obtain rfl:j=i:=oO;exact e
   clear E;generalize a.getD i 0=x at*;by_cases r:x=0
   ·subst r;have ac:=Lib.hid (q.out rfl);clear s q;go_wp2;exact⟨⟨i+1,by omega,by go_num,ac.out⟩,by simp[intOf];omega⟩
   ·have U:=Lib.hid (s.out r);have V:((x:Int)==0)=false:=by rw[beq_eq_false_iff_ne];omega
    have a0:((x:Int)!=0)=true:=by rw[bne,V];rfl
    clear s q r;go_wp2;go_ret;exact⟨by rw[U.out];rfl,p.out⟩
  ·have F:i=k.par:=oO;have X:Hid (a.all (·==0)=true):=all_true (d:=0) λj m=>by
    have:=y.out j (by rw[F,<-f.out];exact m);simpa using this
   subst F;go_wp2;go_ret;exact⟨by rw[X.out];rfl,p.out⟩
section
variable {c s p : Nat} (h : VF c s p)
include h
theorem Kg (n:Nat):gZ n (1:KF h)=aA h (n%c):=by
 obtain⟨hc,f⟩:=h.xr
 induction n with
 |zero=>rw[Nat.zero_mod,aZ];rfl
 |succ n a=>
  show gZ n (1:KF h)+1=_;rw[a,<-ik h,<-jI h (Nat.lt_of_lt_of_le (Nat.mod_lt _ oO) f) oO];congr 1;rcases h with⟨rfl,rfl,g,_,_⟩|⟨d,i,_,hb,rfl,rfl,_⟩
  ·unfold aT;rw[if_pos rfl,Nat.mod_add_mod]
  ·have b:p≠0:=by
    intro e;subst e;have:bl 0=0:=by decide
    omega
   unfold aT;rw[if_neg b];rcases Nat.mod_two_eq_zero_or_one n with e|e
   ·rw[e];show 0^^^1=_;rw[show(n+1)%2=1 from by omega];rfl
   ·rw[e];show 1^^^1=_;rw[show(n+1)%2=0 from by omega];rfl
theorem Li {a:List Nat} (d:aj s a) (i:Nat):co h (kS s p c a (a.length-1)) i=j6 (co h a) i:=by
 obtain⟨hc,e⟩:=h.xr;unfold kS;rw[uU];show _=gZ (i+1) (co h a (i+1));by_cases b:i<a.length-1
 ·rw[if_pos b,dP h (Nat.lt_of_lt_of_le (Nat.mod_lt _ oO) e) (d _),<-Kg h,<-DF,dB];rfl
 ·rw[if_neg b,dL h a (i+1) oO,tZ]
theorem Gx (a:List Nat) (k:Nat):aj s (kS s p c a k):=fW h λi _=>aO h _ _
theorem Je {par:Nat} {a q:List Nat} (hs:aj s a) (d:a.length=par) (hq:aj s q):Ln h par a q (cE s p a q par a.length 0) (kS s p c q (q.length-1)):=
 ⟨j7 h _ _ _ _ _,eo _ _ _ _ _ _ _,λj b=>by rw[p6 h hs hq b,gf],Gx h _ _,qU _ _ _ _ _,λj=>Li h hq j⟩
end
theorem Gi {s p:Nat} {w P:List Nat} {f:Nat->Nat} {t:Nat} (n:P.Nodup) (g:t<P.length) (m:P.getD t 0<w.length):
 (jb s p w (P.take t) f).set (P.getD t 0) (aT s p ((jb s p w (P.take t) f).getD (P.getD t 0) 0) (f (P.getD t 0)))=jb s p w (P.take (t+1)) f:=by
 have i:P.getD t 0=P[t]:=by simp[List.getD,g]
 have o:P.getD t 0∉P.take t:=by
  rw[i];intro a;have k:=n;rw[<-List.take_append_drop t P,List.nodup_append]at k;exact k.2.2 _ a P[t] (by rw[List.drop_eq_getElem_cons g];exact List.mem_cons_self) rfl
 rw[kR m,if_neg o];refine cD (by rw[List.length_set,fg,fg]) λj b=>?_;rw[List.length_set,fg]at b;rw[kR b];have e1:∀x,x∈P.take (t+1)↔x∈P.take t\/x=P.getD t 0:=λx=>by
  rw[List.take_add_one,List.mem_append];have:P[t]?=some (P.getD t 0):=by rw[i];exact List.getElem?_eq_getElem g
  rw[this];simp
 have q:∀(l:List Nat) (x v j:Nat),j<l.length->(l.set x v).getD j 0=if j=x then v else l.getD j 0:=λl x v j b=>by
  by_cases e:j=x
  ·subst e;rw[if_pos rfl];simp[List.getD,b]
  ·rw[if_neg e];simp[List.getD,List.getElem?_set_ne (Ne.symm e)]
 rw[q _ _ _ _ (by rw[fg];exact b),kR b];by_cases d:j=P.getD t 0
 ·rw[if_pos d,if_pos ((e1 _).2 (.inr d)),<-d]
 ·rw[if_neg d];by_cases a:j∈P.take t
  ·rw[if_pos a,if_pos ((e1 _).2 (.inl a))]
  ·rw[if_neg a,if_neg (λh=>(e1 _).1 h|>.elim a d)]
theorem Hb (s p:Nat) (w:List Nat) (f:Nat->Nat):jb s p w [] f=w:=by
 refine cD (fg _ _ _ _ _) λj a=>?_;rw[fg]at a;rw[kR a,if_neg oS]
theorem bF {a:Act} {b:Oper} {W:World} {x q:Operand} (d:b.op= .store 3 q x) (p:Addr) (v:Int) (hq:a.eval q= .pointer (some p)) (e:a.eval x= .int .i64 v) {u:Value} (hc:W.cell? p=some u) (f:W.frozen? p=false):
 (execOp a.eval b).run Tryz.prog W= .ok .skip (W.setCell p (.int .i64 v)):=by
 unfold execOp;simp only[d,hq,e,Instr.storeAt,Instr.sureAddr,Sem.run_bind,Sem.run_pure,Result.andThen_ok];go_simp
def Hm (k:DK) (d e f g:Value) (j P ev sl:List Nat) (w':World) (b:Bool):Prop:=
 b=decide (∀i,i∈P->jR k.S k.P k.first k.n sl i≠0)/\∃a,DS k w' d e f g a/\(b=true->a=jb k.S k.P j P (gY k.S k.P k.first k.n ev sl))
theorem RD.word {k:DK} {wr:World} {A:Option Addr} {xs:List Int} (h:RD wr A xs) (b:∀a,A=some a->a.block≠k.wb) (i:Nat) (u:Value):RD (wr.setCell ⟨k.wb,i,none⟩ u) A xs:=λhn=>by
 obtain⟨a,e,hl,hc⟩:=h hn;refine⟨a,e,by simpa using hl,λj d=>?_⟩
 rw[World.cell?_setCell_other wr _ _ _ (λe2=>b a e (by
  have:=congrArg Addr.block e2;rw[aI]at this
  exact this.symm))]
 exact hc j d
theorem Cy (k:DK) (a3 a4 a5 al:Value) (r q P:List Nat) (w:World) (h:DS k w a3 a4 a5 al r) (M:aq w a3 (zl (bp k.S k.P k.par k.first r))) (V:aq w a4 (zl [1])) (N:aq w a5 (zl q)) (a6:aq w al (zl P))
 (fw:∀A n c o,al= .slice A n c->A=some o->o.block≠k.wb) (hq:aj k.S q) (k5:1<=q.length) (k7:q.length<=4096) (ch:P.Nodup) (cb:∀i,i∈P->i<k.n):
 Calls Tryz.prog 164 #[.pointer (some ⟨k.db,0,none⟩)] w λe w'=>∃b,e= .returned (.bool b)/\Hm k a3 a4 a5 al r P (cE k.S k.P (bp k.S k.P k.par k.first r) q k.par k.par 0) (kS k.S k.P k.C q (q.length-1)) w' b:=by
 have d:=h.ok.vf;have kd:=d.le;have k9:=d.aG;have gy:=h.ok.p1;have la:=h.ok.p2;have ci:=h.ok.f2;have lc:=h.ok.n2;obtain⟨X,bs⟩:∃X,X=bp k.S k.P k.par k.first r:=⟨_,rfl⟩;have av:X.length=k.par:=by rw[bs];unfold bp;simp
 have d4:aj k.S X:=by rw[bs];exact pU d h.lt
 rw[<-bs]at M⊢;obtain⟨ev,bt⟩:∃ev,ev=cE k.S k.P X q k.par k.par 0:=⟨_,rfl⟩;obtain⟨sl,ca⟩:∃sl,sl=kS k.S k.P k.C q (q.length-1):=⟨_,rfl⟩;rw[<-bt,<-ca];have fx:=Lib.hid av;have bv:Hid (aj k.S ev/\ev.length=k.par):=by rw[bt];exact⟨j7 d _ _ _ _ _,eo _ _ _ _ _ _ _⟩
 have bx:Hid (aj k.S sl/\sl.length=q.length-1):=by rw[ca];exact⟨Gx d _ _,qU _ _ _ _ _⟩
 generalize d5:Hm k a3 a4 a5 al r P ev sl=ks;have d6:=Lib.hid d5;obtain⟨a7,c1,rfl,f4,f5,c7⟩:=aq.nat M;obtain⟨a8,a9,rfl,f6,f7,c8⟩:=aq.nat V;obtain⟨bb,bd,rfl,f8,f9,c9⟩:=aq.nat N;obtain⟨be,di,rfl,ga,gb,dl⟩:=aq.nat a6;obtain⟨m,E⟩:∃m,q.length=m+1:=⟨q.length-1,by omega⟩;obtain⟨F,ck⟩:∃F,F=P.length:=⟨_,rfl⟩;have gz:[1].length=1:=rfl;rw[av,E,<-ck]at h;have am:=Lib.hid h;have K:=Lib.hid ck;have ap:=Lib.hid E;have li:m<=4095:=oO;have mb:F<=4096:=by
  have:=length_le_of_subset (m:=List.range k.n) ch (λi O=>List.mem_range.2 (cb i O));rw[List.length_range]at this;omega
 have Y:Hid (∀W,af w W->(W.cell? ⟨k.db,0,none⟩=some (.int .i64 k.C)/\W.cell? ⟨k.db,1,none⟩=some (.int .i64 k.S)/\W.cell? ⟨k.db,2,none⟩=some (.slice (some ⟨k.be,0,none⟩) (k.S-1) (k.S-1))/\W.cell? ⟨k.db,3,none⟩=some (.slice (some ⟨k.bl,0,none⟩) k.S k.S))/\
  (W.cell? ⟨k.db,7,none⟩=some (.int .i64 k.par))/\(W.cell? ⟨k.db,12,none⟩=some (.slice a7 k.par c1)/\W.cell? ⟨k.db,13,none⟩=some (.slice a8 1 a9)/\W.cell? ⟨k.db,14,none⟩=some (.slice bb (m+1) bd))):=by
  show∀W,_;intro W a;obtain⟨M,⟨-,-,-,V,-⟩,-,⟨N,a6,gc,-⟩,-⟩:=(am.out.below a).cells;exact⟨M,V,N,a6,gc⟩
 have d7:Hid (Calls Tryz.prog 200 #[fm k.C k.S k.be k.bl,.slice a8 1 a9,.slice bb (m+1) bd,.int .i64 ((m:Int)+1)] w.drew λe w'=>∃v,e= .returned v/\aq w' v (zl q)/\Below w.drew.heap.size w.drew w'):=by
  show Calls _ _ _ _ _;have:=rD k.C k.S k.P k.be k.bl (m+1) [1] q a8 bb 1 (m+1) a9 bd w.drew d (nG d) hq rfl E.symm oO oO oO oO h.drew.T (c8.below (ai (Below.refl _ _))) (c9.below (ai (Below.refl _ _)));rw[show cE k.S k.P [1] q (m+1) [1].length 0=q from Ma d hq E]at this;exact this
 have d8:Hid (∀W B C,af w W->RD W B (zl q)->Calls Tryz.prog 200 #[fm k.C k.S k.be k.bl,.slice a7 k.par c1,.slice B (m+1) C,.int .i64 k.par] W λe w'=>∃v,e= .returned v/\(aq w' v (zl ev)/\Below W.heap.size W w')/\pX W v):=by
  show∀W B C,_;intro W B C a hB;have:=sa k.C k.S k.P k.be k.bl k.par X q a7 B k.par (m+1) c1 C W d d4 hq av.symm E.symm oO oO gy oO (h.below a).T (c7.below a) hB;rw[av,<-bt]at this;exact this
 have d9:Hid (∀W B C,af w W->RD W B (zl q)->Calls Tryz.prog 203 #[fm k.C k.S k.be k.bl,.slice B (m+1) C] W λe w'=>∃v,e= .returned v/\(aq w' v (zl sl)/\Below W.heap.size W w')/\pX W v):=by
  show∀W B C,_;intro W B C a hB;have:=Ey k.C k.S k.P k.be k.bl q B (m+1) C W d hq E.symm oO oO (h.below a).T hB;rw[Nat.add_sub_cancel]at this;rw[ca,E,Nat.add_sub_cancel];exact this
 have gC:IntKind.i64.wrap ((1:Int)+((m:Int)+1))=(m:Int)+2:=by rw[aE _ oO oO];omega
 have gD:IntKind.i64.wrap ((m:Int)+2-1)=(m:Int)+1:=by rw[aE _ oO oO];omega
 have ea:=Lib.hid dl;have ec:Hid (k.wb<w.heap.size):=Nat.lt_of_lt_of_le h.ok.m.2.2.1 h.sz;have ix:Hid (∀o,be=some o->o.block≠k.wb):=λo e=>fw be P.length di o rfl e;have gN:Hid (∀i,i∈P->i<k.n):=cb;have g0:=Lib.hid ch;have g1:Hid (∀i,i∈P->jR k.S k.P k.first k.n sl i=0->decide (∀i,i∈P->jR k.S k.P k.first k.n sl i≠0)=false):=λi O gd=>decide_eq_false (λi0=>i0 i O gd);have kv:=Lib.hid hq;clear h M V N a6 f4 f5 c7 f6 f7 c8 f8 f9 c9 ga gb dl fw cb ch E ck d5 bt ca d4 av bs hq gz;go_enter Tryz.func164,Tryz.ntmps164;go_wp2;refine yO (af w) [1,2,3,4,5,6,7,8,9,10,11,12,13,14,15,16,17,18,19,20,21,22,23,24,0,25,0,26] (ai (Below.refl _ _)) ?_
 repeat refine zO Y.out ?_
 refine zZ ?_;refine d7.out.mono ?_;rintro e ds ⟨v1,rfl,ed,g⟩;obtain⟨dv,dx,rfl,-,-,ef⟩:=aq.nat ed;rw[ap.out];have ac:Hid (af w ds):=(ai (Below.refl _ _)).trans g;have co:=Lib.hid ef;clear ed g ef d7 gC gD;refine⟨_,rfl,ac.out,jO ?_⟩
 repeat refine zO Y.out ?_
 refine ag ?_;go_wp2;refine yO (af w) [1,2,3,4,5,6,7,8,9,10,11,12,13,14,0,15,0,16] (ai ac.out) ?_
 repeat refine zO Y.out ?_
 refine zZ ?_;refine(d8.out _ dv dx (ai ac.out) (co.out.below (ai (Below.refl _ _)))).mono ?_;rintro e bf ⟨kw,rfl,⟨eh,el⟩,ci⟩;obtain⟨bi,dy,rfl,-,-,em⟩:=aq.nat eh;rw[bv.out.2];have c4:Hid (af ds bf):=(ai (Below.refl _ _)).trans el;have a0:Hid (af w bf):=aa ac.out c4.out;have en:=Lib.hid em;have g2:Hid (∀o,bi=some o->o.block≠k.wb):=ci.ne (Nat.lt_of_lt_of_le ec.out (ai ac.out).size);clear ci;have fz:=Lib.hid (co.out.below c4.out);clear eh el em d8 co ac;refine⟨_,rfl,a0.out,jO ?_⟩
 repeat refine zO Y.out ?_
 refine ag ?_;obtain⟨ge,gg,gi,go⟩:=(Y.out bf a0.out).1;go_wp2_with(go_at_call 203;refine(d9.out bf dv dx a0.out fz.out).mono ?_;rintro e gq ⟨k0,rfl,⟨eq,cp⟩,er⟩;obtain⟨bo,d0,rfl,-,-,es⟩:=aq.nat eq;rw[bx.out.2,ap.out,Nat.add_sub_cancel];have cq:Hid (af w gq):=aa a0.out cp;have et:=Lib.hid es;have g3:Hid (∀o,bo=some o->o.block≠k.wb):=er.ne (Nat.lt_of_lt_of_le ec.out a0.out.size);clear er;have f0:=Lib.hid (en.out.below cp);have g4:=(am.out.below cq.out).cells.2.2.2.1.2.2.2;clear eq cp es)
 have ew:=Lib.hid (am.out.below cq.out);have f1:=Lib.hid (ea.out.below cq.out);obtain⟨n,hn⟩:∃n,n=k.n:=⟨_,rfl⟩;have Q:=Lib.hid hn;obtain⟨L,d1⟩:∃L,L=k.S-1:=⟨_,rfl⟩;have gs:=Lib.hid d1;have ll:IntKind.i64.wrap ((k.S:Int)-1)=(L:Int):=by rw[aE _ oO oO];omega
 have lm:n<=L:=oO;have ls:L<=4095:=oO;obtain⟨bq,g5⟩:∃bq,bq=k.first+k.S:=⟨_,rfl⟩;obtain⟨T,ex⟩:∃T,T=k.first+k.S-2:=⟨_,rfl⟩;have g6:=Lib.hid ex;have lv:IntKind.i64.wrap ((k.first:Int)+(k.S:Int))=(bq:Int):=by rw[aE _ oO oO];omega
 have lw:IntKind.i64.wrap ((bq:Int)-2)=(T:Int):=by rw[aE _ oO oO];omega
 have i1:T<=8190:=oO;have ey:Hid (r.length=n):=by show _=_;rw[<-am.out.hw,hn]
 clear hn d1 g5 ex en fz ea ge gg gi go g4 c4 d9 Y am;go_loopw [62] (λce wr=>∃t:Nat,t<=F/\ce= .int .i64 t/\Hid (DS k wr (.slice a7 k.par c1) (.slice a8 1 a9) (.slice bb (m+1) bd) (.slice be F di) (jb k.S k.P r (P.take t) (gY k.S k.P k.first n ev sl)))/\Hid (∀i,i∈P.take t->jR k.S k.P k.first n sl i≠0)/\Hid (RD wr be (zl P))/\Hid (RD wr bi (zl ev))/\Hid (RD wr bo (zl sl))) (λce _=>F-(intOf ce).toNat)
 case atStart=>exact⟨0,Nat.zero_le _,rfl,by rw[List.take_zero,Hb];exact ew.out,λi O=>by simp at O,f1.out,f0.out,et.out⟩
 case round=>
  clear ew f1 f0 et;obtain⟨t,k1,rfl,f,cr,cs,cv,cx⟩:=hrel;by_cases bz:t<F
  ·obtain⟨i,ad⟩:∃i,i=P.getD t 0:=⟨_,rfl⟩;have c5:i∈P:=by
    rw[ad];have hl:t<P.length:=by rw[<-K.out];exact bz
    rw[show P.getD t 0=P[t]from by simp[List.getD,hl]];exact List.getElem_mem hl
   have cy:i<n:=by rw[Q.out];exact gN.out i c5
   have i2:=Lib.hid c5;obtain⟨cl,b1⟩:∃cl,cl=jb k.S k.P r (P.take t) (gY k.S k.P k.first n ev sl):=⟨_,rfl⟩;have f3:Hid (cl.set i (aT k.S k.P (cl.getD i 0) (gY k.S k.P k.first n ev sl i))=jb k.S k.P r (P.take (t+1)) (gY k.S k.P k.first n ev sl)):=by
    show _=_;rw[b1,ad];exact Gi g0.out (by rw[<-K.out];exact bz) (by rw[ey.out,<-ad];exact cy)
   have i3:Hid (cl.length=n):=by show _=_;rw[b1,fg,ey.out]
   rw[<-b1]at f;obtain⟨u,cg⟩:∃u,u=cl.getD i 0:=⟨_,rfl⟩;have d2:Hid (u<k.S):=by show _<_;rw[cg];exact f.out.lt i
   have b2:=f.out.W.2 i (by rw[i3.out];exact cy);rw[<-cg]at b2 f3;obtain⟨D,b3⟩:∃D,D=n-1-i:=⟨_,rfl⟩;obtain⟨x,ez⟩:∃x,x=L-D:=⟨_,rfl⟩;have lx:IntKind.i64.wrap ((L:Int)-(D:Int))=(x:Int):=by rw[aE _ oO oO];omega
   have g7:x<=100000000:=oO;have i4:D<=4095:=oO;have c6:Hid (∀W,af wr W->Calls Tryz.prog 199 #[.pointer (some ⟨k.db,0,none⟩),.int .i64 i] W λe w'=>e= .returned (.int .i64 (D:Int))/\Below W.heap.size W w'):=by
    show∀W,_;intro W a;have:=KL k _ _ _ _ _ i W (f.out.below a) (by rw[<-Q.out];exact cy);rw[<-Q.out,<-b3]at this;exact this
   obtain⟨y,a1⟩:∃y,y=fF k.S k.P n i:=⟨_,rfl⟩;have e0:bV k.S k.P x=y:=by rw[a1,ez,b3,gs.out];rfl
   have e9:Hid (y<k.S):=by show _<_;rw[a1];exact dD d _
   have fb:Hid (∀W,af wr W->Calls Tryz.prog 152 #[fm k.C k.S k.be k.bl,.int .i64 (x:Int)] W λe w'=>e= .returned (.int .i64 (y:Int))/\Below W.heap.size W w'):=by
    show∀W,_;intro W a;have:=lF k.C k.S k.P k.be k.bl x W d g7 (f.out.below a).T;rw[e0]at this;exact this
   obtain⟨G,b4⟩:∃G,G=D* T:=⟨_,rfl⟩;have i5:G<=100000000:=by
    rw[b4];have:=Nat.mul_le_mul i4 i1;omega
   have ly:IntKind.i64.wrap ((D:Int)* (T:Int))=(G:Int):=by
    have e:(D:Int)* (T:Int)=(G:Int):=by rw[b4];simp
    rw[e];exact aE _ oO oO
   obtain⟨Z,b5⟩:∃Z,Z=bV k.S k.P G:=⟨_,rfl⟩;have g8:Hid (Z<k.S):=by show _<_;rw[b5];exact dD d _
   have fc:Hid (∀W,af wr W->Calls Tryz.prog 152 #[fm k.C k.S k.be k.bl,.int .i64 (G:Int)] W λe w'=>e= .returned (.int .i64 (Z:Int))/\Below W.heap.size W w'):=by
    show∀W,_;intro W a;have:=lF k.C k.S k.P k.be k.bl G W d i5 (f.out.below a).T;rw[<-b5]at this;exact this
   obtain⟨ab,b6⟩:∃ab,ab=hornN k.S k.P y sl:=⟨_,rfl⟩;have i6:Hid (ab<k.S):=by show _<_;rw[b6];exact gW d _ sl (ek bx.out.1)
   have fd:Hid (∀W,af wr W->Calls Tryz.prog 202 #[fm k.C k.S k.be k.bl,.slice bo m d0,.int .i64 (y:Int)] W λe w'=>e= .returned (.int .i64 (ab:Int))/\Below W.heap.size W w'):=by
    show∀W,_;intro W a;rw[b6];exact uc k.C k.S k.P k.be k.bl y sl m (by rw[bx.out.2,ap.out,Nat.add_sub_cancel]) bo d0 W d e9.out bx.out.1 oO (f.out.below a).T (cx.out.below a)
   obtain⟨H,b7⟩:∃H,H=hornN k.S k.P y ev:=⟨_,rfl⟩;have g9:Hid (H<k.S):=by show _<_;rw[b7];exact gW d _ ev (ek bv.out.1)
   have fn:Hid (∀W,af wr W->Calls Tryz.prog 202 #[fm k.C k.S k.be k.bl,.slice bi k.par dy,.int .i64 (y:Int)] W λe w'=>e= .returned (.int .i64 (H:Int))/\Below W.heap.size W w'):=by
    show∀W,_;intro W a;rw[b7];exact uc k.C k.S k.P k.be k.bl y ev k.par bv.out.2.symm bi dy W d e9.out bv.out.1 oO (f.out.below a).T (cv.out.below a)
   obtain⟨z,b8⟩:∃z,z=au k.S k.P Z ab:=⟨_,rfl⟩;have c2:Hid (jR k.S k.P k.first n sl i=z):=by
    show _=_;rw[b8,b5,b4,b3,g6.out,b6,a1];rfl
   have i7:=Lib.hid b8;have ib:Hid (z<k.S):=by show _<_;rw[b8];exact aO d _ _
   have ih:Hid (gY k.S k.P k.first n ev sl i=au k.S k.P H (bE k.S k.P z)):=by
    show _=_;unfold gY;rw[c2.out,b7,a1]
   have l:Hid (∀W,af wr W->(W.cell? ⟨k.db,0,none⟩=some (.int .i64 k.C)/\W.cell? ⟨k.db,1,none⟩=some (.int .i64 k.S)/\W.cell? ⟨k.db,2,none⟩=some (.slice (some ⟨k.be,0,none⟩) (k.S-1) (k.S-1))/\W.cell? ⟨k.db,3,none⟩=some (.slice (some ⟨k.bl,0,none⟩) k.S k.S))/\
    W.cell? ⟨k.db,8,none⟩=some (.int .i64 k.first)/\W.cell? ⟨k.db,9,none⟩=some (.slice (some ⟨k.wb,0,none⟩) n k.cw)/\W.cell? ⟨k.wb,i,none⟩=some (.int .i64 (u:Int))/\W.frozen? ⟨k.wb,i,none⟩=false):=by
    show∀W,_;intro W a;obtain⟨M,⟨-,-,-,-,V⟩,⟨N,-,-⟩,-,-⟩:=(f.out.below a).cells;rw[<-Q.out]at N;exact⟨M,V,N,(a.cell f.out.W.1).trans b2.1,(a.frozen f.out.W.1).trans b2.2⟩
   obtain⟨l1,rfl,kc,f2⟩:=cs.out (by rw[ak,<-K.out];omega);have d3:=f2 t (by rw[ak,<-K.out];exact bz);rw[bw,<-ad]at d3;have ii:=Lib.hid ad;clear f2 kc ad b1 cg b2 b3 ez a1 e0 b4 b5 b6 b7 b8 c5;go_wp2;clear d3;refine bj (S:=af wr) 15 oK oK (ai (Below.refl _ _)) ?_;simp only[List.take_succ_cons,List.take_zero,List.drop_succ_cons,List.drop_zero]
   repeat refine kO l.out ?_
   refine kX (λW a=>c6.out W a) ?_
   repeat refine kO l.out ?_
   refine kX (λW a=>fb.out W a) ?_
   repeat refine kO l.out ?_
   refine bR ?_;intro k2 g;have io:=Lib.hid g;clear g;go_wp2;refine bj (S:=af wr) 21 oK oK (ai io.out) ?_;simp only[List.take_succ_cons,List.take_zero,List.drop_succ_cons,List.drop_zero]
   repeat refine kO l.out ?_
   refine kX (λW a=>c6.out W a) ?_
   repeat refine kO l.out ?_
   refine kX (λW a=>fc.out W a) ?_
   repeat refine kO l.out ?_
   refine bR ?_;intro k3 g;have ip:=Lib.hid g;clear g;go_wp2;refine bj (S:=af wr) 13 oK oK (ai ip.out) ?_;simp only[List.take_succ_cons,List.take_zero,List.drop_succ_cons,List.drop_zero]
   repeat refine kO l.out ?_
   refine kX (λW a=>fd.out W a) ?_
   repeat refine kO l.out ?_
   refine kX (λW a=>kH k.C k.S k.P k.be k.bl Z ab W d g8.out i6.out (f.out.below a).T) ?_
   repeat refine kO l.out ?_
   refine bR ?_;intro k4 g;have fo:=Lib.hid g;clear g;rw[<-i7.out];clear c6 fb fc fd;by_cases c3:z=0
   ·have gt:((z:Int)==0)=true:=by rw[beq_iff_eq];omega
    have it:=Lib.hid (g1.out i i2.out (by rw[<-Q.out,c2.out];exact c3));clear fn;go_wp2;go_ret;refine⟨_,rfl,?_⟩;rw[<-d6.out];refine⟨it.out.symm,cl,?_,λh=>by cases h⟩;rw[fx.out,ap.out,<-K.out];exact f.out.below fo.out
   ·have gt:((z:Int)==0)=false:=by rw[beq_eq_false_iff_ne];omega
    obtain⟨J,b9⟩:∃J,J=au k.S k.P H (bE k.S k.P z):=⟨_,rfl⟩;have i8:=Lib.hid b9;have i9:Hid (J<k.S):=by show _<_;rw[b9];exact aO d _ _
    have jp:Hid (cl.set i (aT k.S k.P u J)=jb k.S k.P r (P.take (t+1)) (gY k.S k.P k.first n ev sl)):=by
     show _=_;rw[<-f3.out,ih.out,b9]
    clear b9;go_wp2;refine bj (S:=af wr) 31 oK oK (ai fo.out) ?_;simp only[List.take_succ_cons,List.take_zero,List.drop_succ_cons,List.drop_zero]
    repeat refine kO l.out ?_
    refine kX (λW a=>fn.out W a) ?_
    repeat refine kO l.out ?_
    refine kX (λW a=>oq k.C k.S k.P k.be k.bl H z W d g9.out ib.out c3 (f.out.below a).T) ?_
    repeat refine kO l.out ?_
    refine kX (λW a=>oC k.C k.S k.P k.be k.bl u (au k.S k.P H (bE k.S k.P z)) W d d2.out (aO d _ _)) ?_
    repeat refine kO l.out ?_
    refine bR ?_;intro gv g;have a2:=Lib.hid g;clear g;rw[<-i8.out];obtain⟨-,-,-,l2,l3⟩:=l.out gv a2.out;have fr:=Lib.hid ((f.out.below a2.out).word i (aT k.S k.P u J) (ja d _ _ d2.out i9.out));have jr:=Lib.hid ((cs.out.below a2.out).word ix.out i (.int .i64 (aT k.S k.P u J:Nat)));have jv:=Lib.hid ((cv.out.below a2.out).word g2.out i (.int .i64 (aT k.S k.P u J:Nat)));have j0:=Lib.hid ((cx.out.below a2.out).word g3.out i (.int .i64 (aT k.S k.P u J:Nat)));rw[jp.out]at fr;go_wp2;refine⟨⟨t+1,by omega,by go_num,fr.out,λj U=>?_,jr.out,jv.out,j0.out⟩,by simp[intOf];omega⟩;rw[List.take_add_one,List.mem_append]at U;rcases U with U|U
    ·exact cr.out j U
    ·have hl:t<P.length:=by rw[<-K.out];exact bz
     have gx:P[t]?=some i:=by rw[ii.out,List.getElem?_eq_getElem hl];simp[List.getD,hl]
     rw[gx]at U;obtain rfl:j=i:=by simpa using U
     rw[c2.out];exact c3
  ·have fv:t=F:=oO;have iv:Hid (P.take t=P):=by show _=_;rw[fv,K.out,List.take_length]
   rw[iv.out]at f cr;subst fv;clear cs cv cx;go_wp2;go_ret;refine⟨_,rfl,?_⟩;rw[<-d6.out];refine⟨(decide_eq_true (λi O=>by rw[<-Q.out];exact cr.out i O)).symm,_,?_,λ_=>by rw[<-Q.out]⟩;rw[fx.out,ap.out,<-K.out];exact f.out
def fE (s p par first:Nat) (w:List Nat) (r:Option (List Nat)):Prop:=(∀v,Fix s p par first w v->r=some v)/\∀v,r=some v->Fix s p par first w v
theorem CS {c s p:Nat} (h:VF c s p) {par first:Nat} {w q:List Nat} {L:Nat} (a:aj s w) (hn:w.length<=s-1) (hq:aj s q) (f:cG q) (g:iK h (co h (bp s p par first w)) par (co h q) L):
 fE s p par first w (sI s p par first w q (cE s p (bp s p par first w) q par par 0) (kS s p c q (q.length-1))):=by
 have e:(bp s p par first w).length=par:=by unfold bp;simp
 have d:=Je h (pU h (par:=par) (first:=first) a) e hq;rw[e]at d;exact⟨λv b=>Is h a hn b hq f g d,λv b=>Eu h a b⟩
def mW (k:DK) (c:List Nat) (w':World) (b:Bool):Prop:=∃r:Option (List Nat),fE k.S k.P k.par k.first c r/\b=r.isSome/\∃d e f g a,DS k w' d e f g a/\∀v,r=some v->a=v
abbrev aH:Value:= .slice none 0 0
def EZ (k:DK) (d:VF k.C k.S k.P) (a:List Nat) (wr:World):Nat->Prop
 |0=>DS k wr aH aH aH aH a
 |1=>∃v1,DS k wr v1 aH aH aH a/\aq wr v1 (zl (bp k.S k.P k.par k.first a))
 |2=>∃v1 b,DS k wr v1 b aH aH a/\aq wr v1 (zl (bp k.S k.P k.par k.first a))/\aq wr b (zl [1])
 |3=>∃v1 b e q L,DS k wr v1 b e aH a/\aq wr v1 (zl (bp k.S k.P k.par k.first a))/\aq wr b (zl [1])/\aq wr e (zl q)/\aj k.S q/\cG q/\1<=q.length/\q.length<=k.par+1/\iK d (co d (bp k.S k.P k.par k.first a)) k.par (co d q) L/\2* (q.length-1)<=k.par
 |4=>∃v1 b e v4 q L,DS k wr v1 b e v4 a/\aq wr v1 (zl (bp k.S k.P k.par k.first a))/\aq wr b (zl [1])/\aq wr e (zl q)/\aq wr v4 (zl (dC k.S k.P k.n q))/\(∀A n c f,v4= .slice A n c->A=some f->f.block≠k.wb)/\aj k.S q/\cG q/\1<=q.length/\q.length<=k.par+1/\iK d (co d (bp k.S k.P k.par k.first a)) k.par (co d q) L/\2* (q.length-1)<=k.par/\(dC k.S k.P k.n q).length=q.length-1
 |5=>∃v1 b e v4 q L,DS k wr v1 b e v4 (jb k.S k.P a (dC k.S k.P k.n q) (gY k.S k.P k.first k.n (cE k.S k.P (bp k.S k.P k.par k.first a) q k.par k.par 0) (kS k.S k.P k.C q (q.length-1))))/\aj k.S q/\cG q/\iK d (co d (bp k.S k.P k.par k.first a)) k.par (co d q) L/\2* (q.length-1)<=k.par/\(dC k.S k.P k.n q).length=q.length-1/\∀i,i∈dC k.S k.P k.n q->jR k.S k.P k.first k.n (kS k.S k.P k.C q (q.length-1)) i≠0
 |_=>mW k a wr true
abbrev kA (db f:Nat):Value:= .func (Fn.func f) #[.pointer (some ⟨db,0,none⟩)] #[]
abbrev wK (db:Nat):List Value:=[kA db 160,kA db 161,kA db 162,kA db 163,kA db 164,kA db 165]
def DK.steps (k:DK) (a:Nat):DK:={k with M:=a+1,X:=λW=>k.X W/\ae W a (wK k.db).toArray 25}
theorem DS.steps {k:DK} {w:World} {e f j l:Value} {m:List Nat} (h:DS k w e f j l m):DS (k.steps w.heap.size) (w.alloc (.cells (wK k.db).toArray 25)) e f j l m:=by
 have b:=h.below (ax w (.cells (wK k.db).toArray 25));have a:=h.ok;obtain⟨o,p,q,r,s,t⟩:=a.m;have hs:=h.sz;refine⟨⟨a.vf,a.p1,a.p2,a.f2,a.n1,a.n2,a.Mx,a.My,a.lo,a.e1,a.e2,a.e3,a.e4,a.e5,a.e6,a.e7,?_,?_,?_⟩,b.B,?_,b.R,b.W,b.hw,b.lt,b.T,b.E,⟨b.X,?_⟩⟩
 ·rintro wr W ⟨c,d⟩ hb n;exact⟨a.xb _ _ c (hb.mono (Nat.le_succ_of_le hs)) n,(hb.block _ (Nat.lt_succ_self _)).trans d⟩
 ·rintro wr g i u hg ⟨c,d⟩;refine⟨a.xs _ _ _ _ hg c,(heap_setCell_other wr ⟨g,i,none⟩ w.heap.size _ ?_).trans d⟩;show w.heap.size≠g;have v:g<k.M:=by rcases hg with hg|hg<;>rw[hg]<;>assumption
  omega
 ·show k.N<=w.heap.size+1/\k.db<w.heap.size+1/\k.wb<w.heap.size+1/\k.eb<w.heap.size+1/\k.be<w.heap.size+1/\k.bl<w.heap.size+1;omega
 ·show w.heap.size+1<=(w.alloc _).heap.size;exact Nat.le_of_eq oS
 ·exact ae.new _ _ _ _ rfl
theorem DS.KX {k:DK} {a:Nat} {w:World} {b c d e:Value} {f:List Nat} (h:DS (k.steps a) w b c d e f) (g:k.Ok) (i:k.M<=a+1):DS k w b c d e f:=
 ⟨g,h.B,Nat.le_trans i h.sz,h.R,h.W,h.hw,h.lt,h.T,h.E,h.X.1⟩
theorem Es (s p n:Nat) (q:List Nat):(dC s p n q).Nodup:=List.nodup_range.filter _
theorem tK {s p n:Nat} {q:List Nat} {i:Nat} (h:i∈dC s p n q):i<n:=List.mem_range.mp (List.mem_filter.mp h).1
theorem KK (k:DK) (c d f g:Value) (a:List Nat) (w:World) (b:Bool) (h:DS k w c d f g a) (hb:(bp k.S k.P k.par k.first a).all (·==0)=b):
 Calls Tryz.prog 165 #[.pointer (some ⟨k.db,0,none⟩)] w λe w'=>e= .returned (.bool b)/\Below w.heap.size w w':=by
 subst hb;exact GH k c d f g a w h
noncomputable abbrev Fq (k:DK) (a q:List Nat):Option (List Nat):=sI k.S k.P k.par k.first a q (cE k.S k.P (bp k.S k.P k.par k.first a) q k.par k.par 0) (kS k.S k.P k.C q (q.length-1))
theorem qt {k:DK} (a:VF k.C k.S k.P) {b q:List Nat} {L:Nat} {w':World} {c d f g:Value} {n:List Nat} (i:DS k w' c d f g n) (j:aj k.S b) (hn:b.length<=k.S-1) (hq:aj k.S q) (l:cG q) (m:iK a (co a (bp k.S k.P k.par k.first b)) k.par (co a q) L) (e:Fq k b q=none):mW k b w' false:=
 ⟨none,by rw[<-e];exact CS a j hn hq l m,rfl,_,_,_,_,_,i,λv a=>by cases a⟩
theorem H5 {k:DK} (a:VF k.C k.S k.P) {b q:List Nat} {L:Nat} {w':World} {d f g i:Value} {c:List Nat} (j:DS k w' d f g i c) (l:aj k.S b) (hn:b.length<=k.S-1) (hq:aj k.S q) (m:cG q) (n:iK a (co a (bp k.S k.P k.par k.first b)) k.par (co a q) L) (e:Fq k b q=some c):mW k b w' true:=
 ⟨some c,by rw[<-e];exact CS a l hn hq m n,rfl,_,_,_,_,_,j,λv a=>by injection a⟩
theorem KB (k:DK) (c:List Nat) (w:World) (h:DS k w aH aH aH aH c):
 Calls Tryz.prog 120 #[.pointer (some ⟨k.db,0,none⟩)] w λe w'=>∃b,e= .returned (.bool b)/\mW k c w' b:=by
 have s:=h.ok.vf;have N:k.n=c.length:=h.hw;have O:Hid (aj k.S c):=h.lt;have P:Hid (c.length<=k.S-1):=by show _<=_;rw[<-N];exact h.ok.n2
 have al:=Lib.hid h.ok;have a2:Hid (k.M<=w.heap.size+1):=Nat.le_succ_of_le h.sz;have a3:Hid (EZ (k.steps w.heap.size) s c (w.alloc (.cells (wK k.db).toArray 25)) 0):=h.steps;have HC:Hid (∀W X Y Z c wr,DS (k.steps w.heap.size) wr W X Y Z c->ae wr w.heap.size (wK k.db).toArray 25):=λ_ _ _ _ _ _ h=>h.X.2;have G:Hid (∀w' b,mW (k.steps w.heap.size) c w' b->mW k c w' b):=by
  show∀_ _,_;rintro w' b ⟨r,Q,D,W,X,Y,Z,am,S,a4⟩;exact⟨r,Q,D,W,X,Y,Z,am,S.KX al.out a2.out,a4⟩
 generalize bb:mW k c=bo at G⊢;clear bb;clear h;go_enter Tryz.func120,Tryz.ntmps120;go_wp2;go_loopw [21] (λab wr=>∃j:Nat,ab= .int .i64 j/\j<=6/\Hid (EZ (k.steps w.heap.size) s c wr j)) (λab _=>6-(intOf ab).toNat)
 case atStart=>exact⟨0,rfl,by omega,a3⟩
 case round=>
  obtain⟨j,rfl,ac,J⟩:=hrel
  match j,ac,J with
  |0,_,J=>
   have d:Hid (DS (k.steps w.heap.size) wr aH aH aH aH c):=J;have hc:wr.cell? ⟨w.heap.size,0,none⟩=some (kA k.db 160):=(HC.out _ _ _ _ _ _ d.out).cell 0 _ rfl;go_wp2_with(go_at_call 160;refine(BW (k.steps w.heap.size) aH aH aH aH c _ d.out ⟨_,_,_,rfl⟩).mono ?_;rintro e E ⟨rfl,f⟩)
   exact⟨⟨1,rfl,by omega,f⟩,by simp[intOf]⟩
  |1,_,⟨v1,a,n⟩=>
   have d:=Lib.hid a;have x:=Lib.hid n;clear a n;have hc:wr.cell? ⟨w.heap.size,1,none⟩=some (kA k.db 161):=(HC.out _ _ _ _ _ _ d.out).cell 1 _ rfl;go_wp2_with(go_at_call 161;refine(He (k.steps w.heap.size) v1 aH aH aH c _ d.out ⟨_,_,_,rfl⟩).mono ?_;rintro e E ⟨rfl,g,Q,D,S⟩;have f:EZ (k.steps w.heap.size) s c E 2:=⟨v1,g,Q,S _ _ x.out,D⟩;clear Q D S)
   exact⟨⟨2,rfl,by omega,f⟩,by simp[intOf]⟩
  |2,_,⟨v1,g,a,n,t⟩=>
   have d:=Lib.hid a;have x:=Lib.hid n;have H:=Lib.hid t;clear a n t;have hc:wr.cell? ⟨w.heap.size,2,none⟩=some (kA k.db 162):=(HC.out _ _ _ _ _ _ d.out).cell 2 _ rfl;go_wp2_with(go_at_call 162;refine(DU (k.steps w.heap.size) v1 g aH aH c _ d.out x.out H.out ⟨_,_,_,rfl⟩).mono ?_;rintro e E ⟨b,rfl,u⟩;have f:=Lib.hid u;clear u;cases b)
   ·obtain⟨q,L,hb,hq,l,z,A,m,o,a,-,-⟩:=f.out;go_ret;refine⟨false,rfl,G.out _ _ (qt (k:=k.steps w.heap.size) s a O.out P.out hq l m (if_neg λB=>?_))⟩;exact absurd B.1 (of_decide_eq_false hb.symm)
   ·obtain⟨q,L,hb,hq,l,z,A,m,o,a,C,F⟩:=f.out;exact⟨⟨3,rfl,by omega,⟨v1,g,o,q,L,a,F _ _ x.out,F _ _ H.out,C,hq,l,z,A,m,of_decide_eq_true hb.symm⟩⟩,by simp[intOf]⟩
  |3,_,⟨v1,g,o,q,L,a,n,t,C,hq,l,z,A,m,K⟩=>
   have d:=Lib.hid a;have x:=Lib.hid n;have H:=Lib.hid t;have V:=Lib.hid C;have p:=Lib.hid hq;have y:=Lib.hid l;have v:=Lib.hid m;have a5:q.length<=k.par+1:=A;have bd:=al.out.p2;have a6:=s.le;clear a n t C hq l m;have hc:wr.cell? ⟨w.heap.size,3,none⟩=some (kA k.db 163):=(HC.out _ _ _ _ _ _ d.out).cell 3 _ rfl;go_wp2_with(go_at_call 163;refine(ES (k.steps w.heap.size) v1 g o c q _ d.out V.out p.out z oO).mono ?_;rintro e E ⟨b,rfl,u⟩;have f:=Lib.hid u;clear u;cases b)
   ·obtain⟨hb,v4,a,-⟩:=f.out;go_ret;refine⟨false,rfl,G.out _ _ (qt (k:=k.steps w.heap.size) s a O.out P.out p.out y.out v.out (if_neg λB=>?_))⟩;have:=B.2.1;rw[<-N]at this;exact absurd this (of_decide_eq_false hb.symm)
   ·obtain⟨hb,v4,a,T,U,F⟩:=f.out;exact⟨⟨4,rfl,by omega,⟨v1,g,o,v4,q,L,a,F _ _ x.out,F _ _ H.out,F _ _ V.out,T,U,p.out,y.out,z,A,v.out,K,of_decide_eq_true hb.symm⟩⟩,by simp[intOf]⟩
  |4,_,⟨v1,g,o,v4,q,L,a,n,t,C,T,U,hq,l,z,A,m,K,M⟩=>
   have d:=Lib.hid a;have x:=Lib.hid n;have H:=Lib.hid t;have V:=Lib.hid C;have be:=Lib.hid T;have p:=Lib.hid hq;have y:=Lib.hid l;have v:=Lib.hid m;have a7:=Lib.hid U;have ap:=Lib.hid M;have a5:q.length<=k.par+1:=A;have bd:=al.out.p2;have a6:=s.le;clear a n t C T U hq l m M;have hc:wr.cell? ⟨w.heap.size,4,none⟩=some (kA k.db 164):=(HC.out _ _ _ _ _ _ d.out).cell 4 _ rfl;go_wp2_with(go_at_call 164;refine(Cy (k.steps w.heap.size) v1 g o v4 c q (dC k.S k.P k.n q) _ d.out x.out H.out V.out be.out a7.out p.out z oO (Es _ _ _ _) (λi a8=>tK a8)).mono ?_;rintro e E ⟨b,rfl,u⟩;have f:=Lib.hid u;clear u;cases b)
   ·obtain⟨hb,am,a,-⟩:=f.out;go_ret;refine⟨false,rfl,G.out _ _ (qt (k:=k.steps w.heap.size) s a O.out P.out p.out y.out v.out (if_neg λB=>?_))⟩;have:=B.2.2.1;rw[<-N]at this;exact absurd this (of_decide_eq_false hb.symm)
   ·obtain⟨hb,am,a,a9⟩:=f.out;rw[a9 rfl]at a;exact⟨⟨5,rfl,by omega,⟨v1,g,o,v4,q,L,a,p.out,y.out,v.out,K,ap.out,of_decide_eq_true hb.symm⟩⟩,by simp[intOf]⟩
  |5,_,⟨v1,g,o,v4,q,L,a,hq,l,m,K,M,av⟩=>
   have d:=Lib.hid a;have p:=Lib.hid hq;have y:=Lib.hid l;have v:=Lib.hid m;have ap:=Lib.hid M;have bf:=Lib.hid av;clear a hq l m M av;generalize hb:(bp k.S k.P k.par k.first (jb k.S k.P c (dC k.S k.P k.n q) (gY k.S k.P k.first k.n (cE k.S k.P (bp k.S k.P k.par k.first c) q k.par k.par 0) (kS k.S k.P k.C q (q.length-1))))).all (·==0)=b;have ad:=Lib.hid hb;clear hb;have hc:wr.cell? ⟨w.heap.size,5,none⟩=some (kA k.db 165):=(HC.out _ _ _ _ _ _ d.out).cell 5 _ rfl;go_wp2_with(go_at_call 165;refine(KK (k.steps w.heap.size) v1 g o v4 _ _ b d.out ad.out).mono ?_;rintro e E ⟨rfl,a0⟩;have a1:=Lib.hid (d.out.below a0);clear a0;cases b)
   ·go_ret;refine⟨false,rfl,G.out _ _ (qt (k:=k.steps w.heap.size) s a1.out O.out P.out p.out y.out v.out (if_neg λB=>?_))⟩;have:=sB.mpr B.2.2.2;rw[<-N]at this;have D:=ad.out.symm.trans this;cases D
   ·refine⟨⟨6,rfl,by omega,?_⟩,by simp[intOf]⟩;refine H5 (k:=k.steps w.heap.size) s a1.out O.out P.out p.out y.out v.out ?_;show sI _ _ _ _ _ _ _ _=_;unfold sI;rw[<-N];exact if_pos ⟨K,ap.out,bf.out,sB.mp ad.out⟩
  |6,_,J=>
   have bi:Hid (mW (k.steps w.heap.size) c wr true):=J;go_wp2;go_ret;exact⟨true,rfl,G.out _ _ bi.out⟩
  |j+7,ac,_=>exact absurd ac oO
end
end Go.Proofs.YtmnlkganmgcpbaaGreatDoor
