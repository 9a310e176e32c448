import Derived.Test.YtmnlkganmgcpbaaGreatDoorQd5
import Derived.Lib.AppendStr
set_option maxRecDepth 100000
set_option maxHeartbeats 4000000
set_option linter.unusedVariables false
set_option linter.unusedSectionVars false
set_option linter.unusedSimpArgs false
namespace Go.Proofs.YtmnlkganmgcpbaaGreatDoor
section
open Go.RowKit Go.WideMaps Go.Maps
def notBits:Obj->Bool
 |.cells _ t _=>!(t==4)&&!(t==26)
 |_=>true
def iY (w w':World):Prop:=∀(k:Nat) (a:Obj),w.heap[k]?=some a->notBits a=true->w'.heap[k]?=some a
theorem iY.trans {a b c:World} (h:iY a b) (f:iY b c):iY a c:=λk d g e=>f k d (h k d g e) e
theorem iY.below {w W:World} (h:Below w.heap.size w W):iY w W:=λk b a _=>(h.block k (au a)).trans a
theorem aa.dD {w w':World} {g:Nat} {a:Array Value} {t:TypeId} (h:aa w g a t) (b:iY w w') (c:notBits (.cells a t (0,0))=true):aa w' g a t:=b g _ h c
theorem aa.fm {w:World} {g i:Nat} {a:Array Value} {t:TypeId} (h:aa w g a t) (u:Value):aa (w.setCell ⟨g,i,none⟩ u) g (a.setIfInBounds i u) t:=heap_setCell_same w g i a t u h
structure BO (n:Nat) (w wr:World) (b:Nat) (a:List Bool):Prop where
 B:Below n w wr
 X:∃A c,aa wr b #[.slice A a.length c] 26/\wr.ownsRow n 4 1 (.slice A a.length c) a.length (a.map vB)
 n1:n<=b
 n2:n<=wr.heap.size
theorem BO.below {n:Nat} {w wr W:World} {b:Nat} {d:List Bool} (h:BO n w wr b d) (a:Below wr.heap.size wr W):BO n w W b d:=by
 obtain⟨A,c,e,f⟩:=h.X;exact⟨h.B.trans (a.mono h.n2),⟨A,c,e.below a,ar f a⟩,h.n1,Nat.le_trans h.n2 a.size⟩
theorem GB {n:Nat} {w:World} {a q:Nat} {u:Value} {v:Value} {k:Nat} {xs:List Value} (b:aa w a #[u] 26) (c:w.ownsRow n 4 1 v k xs) (hq:v.ownBlock=some q):q≠a:=by
 rcases c.2 with⟨rfl,_⟩|⟨g,cap,d,rfl,_,hg,_⟩
 ·cases hq
 ·simp only[Value.ownBlock,Option.some.injEq]at hq;subst hq;intro e;subst e;unfold aa at b;rw[b]at hg;injection hg with hg;injection hg with _ e _;exact absurd e oD
theorem iY.grown {n:Nat} {w W:World} {v:Value} {k:Nat} {xs:List Value} (h:w.ownsRow n 4 1 v k xs) (hg:w.grownBy W v.ownBlock):iY w W:=by
 intro q c a hn;refine(hg.block q (au a) ?_).trans a;intro e;rcases h.2 with⟨rfl,_⟩|⟨g,cap,d,rfl,_,b,_⟩
 ·cases e
 ·simp only[Value.ownBlock,Option.some.injEq]at e;subst e;rw[b]at a;injection a with a;subst a;exact absurd hn (by simp[notBits])
theorem iY.fm {w:World} {g i:Nat} {b:Array Value} (h:aa w g b 26) (u:Value):iY w (w.setCell ⟨g,i,none⟩ u):=by
 intro q c a hn;refine(Below.heap_setCell _ _ _ _ ?_).trans a;intro e;subst e;unfold aa at h;rw[h]at a;injection a with a;subst a;exact absurd hn (by simp[notBits])
theorem D6 (n:Nat) (w0 w:World) (a:Nat) (b:List Bool) (v k:Nat) (h:BO n w0 w a b) (N:v<=1000000000000) (O:k<=62) (hl:b.length<=4000000000):
 Calls Tryz.prog 131 #[.int .i64 (v:Int),.int .i64 (k:Int),.pointer (some ⟨a,0,none⟩)] w λe w'=>e= .returned (.tuple #[])/\BO n w0 w' a (b++aH v k)/\iY w w':=by
 obtain⟨P,Q,Z,ab,ac⟩:=info_parts iO;obtain⟨A,c,D,E⟩:=h.X;have S:=Lib.hid D;have T:=Lib.hid E;have U:=Lib.hid h.B;have j:Hid (n<=a/\n<=w.heap.size):=⟨h.n1,h.n2⟩;have H:=Lib.hid (aN v k);clear h D E;go_enter Tryz.func131,Tryz.ntmps131
 go_wp2_with(first
  |(go_at_call 59;refine(Dj v k _ N O).mono ?_;rintro e F ⟨v4,rfl,J,s⟩;obtain⟨V,n4,W,rfl,K⟩:=J.parts;have m:=Lib.hid s;have o:=Lib.hid K;have t:=Lib.hid (S.out.below s);have u:=Lib.hid (ar T.out s);have ap:F.cell? ⟨a,0,none⟩=some (.slice A b.length c):=t.out.cell 0 _ rfl;clear J s K)
  |(at_builtin;refine aY (f:=vB) (d:=false) xN rfl _ _ _ rfl n 4 P _ 1 Tryz.underlying26 Q Z ab ac rfl _ b.length b rfl u.out V n4 W (aH v k) rfl o.out.hn o.out.rd (by have:=o.out.hn;have:=H.out;unfold maxLen;omega) (by have:=o.out.hn;have:=H.out;omega) (Nat.le_trans j.out.2 m.out.size) ?_;intro av l C hg;obtain⟨x,y,rfl⟩:=cY C;have B:=Lib.hid hg;have L:=Lib.hid C;have p:Hid (aa l a #[.slice A b.length c] 26):=(hg.block a (au t.out) (λe=>GB t.out u.out e.symm rfl)).trans t.out;have a0:l.cell? ⟨a,0,none⟩=some (.slice A b.length c):=p.out.cell 0 _ rfl;have a1:l.frozen? ⟨a,0,none⟩=false:=frozen_of_row _ _ _ _ _ p.out;clear C hg))
 refine bodyPost_end (results_none rfl _ _ _) rfl ?_;have M:=o.out.hn;refine⟨rfl,⟨?_,⟨x,y,?_,?_⟩,j.out.1,?_⟩,?_⟩
 ·have ad:Below n w0 F:=U.out.trans (m.out.mono j.out.2);have al:Below n w0 l:=ad.grown B.out (Nat.le_trans j.out.2 m.out.size) (λq hq=>(u.out.lt q hq).1);exact al.setCell (by exact j.out.1) _
 ·have r:=p.out.fm (i:=0) (.slice x (b.length+n4) y);rw[List.length_append,<-M];exact r
 ·have r:=L.out;rw[List.length_append,<-M];refine⟨r.1,?_⟩;rcases r.2 with z|⟨g,cap,am,G,z,X,Y⟩
  ·exact .inl z
  ·refine .inr ⟨g,cap,am,G,z,(Below.heap_setCell _ _ _ _ ?_).trans X,Y⟩;exact GB p.out L.out (by rw[G];rfl)
 ·have e1:(l.setCell ⟨a,0,none⟩ (.slice x (b.length+n4) y)).heap.size=l.heap.size:=by simp
  rw[e1];exact Nat.le_trans (Nat.le_trans j.out.2 m.out.size) B.out.size
 ·exact(iY.below m.out).trans ((iY.grown u.out B.out).trans (iY.fm p.out _))
def byF (p:ByteArray) (a:Nat):Nat->List Bool
 |0=>[]
 |k+1=>byF p a k++aH (p.data.toList.getD (a+k) 0).toNat 8
def mj (p:ByteArray) (a:Nat) (b:aA):List Bool:=if 0<b.run then(if b.long=true then aH 0 5++aH (b.run-31) 11 else aH b.run 5)++byF p a b.run else[]
def cr (p:ByteArray) (a m:Nat) (b:aA):List Bool:=aH b.num (an m)++(if 0<=b.sec then aH b.sec.toNat 5 else[])++mj p a b
def fQ (p:ByteArray) (c:Nat->Nat->Option aA):Nat->Nat->Nat->List Bool
 |0,_,_=>[]
 |f+1,a,m=>if a<p.size then(match c a m with|some b=>cr p a m b++fQ p c f b.at_ b.mode|none=>[])else[]
structure L5 (p:ByteArray) (C:Nat->Nat->Nat) (a m:Nat) (b:aA):Prop where
 le:b.at_<=p.size
 md:b.mode<5
 eq:C a m=b.bK C
 ps:0<b.size
 nm:b.num<32
 s1:-1<=b.sec
 s2:b.sec<32
 rn:a+b.run<=p.size
 lg:0<b.run->b.long=true->31<=b.run
 sr:0<=b.sec->b.run=0
 ln:(cr p a m b).length<=b.size
theorem oa (n:Nat) (w0 w:World) (a:Nat) (b:List Bool) (v k:Nat) (V K:Int) (c:V=(v:Int)) (d:K=(k:Int)) (h:BO n w0 w a b) (f:v<=1000000000000) (g:k<=62) (hl:b.length<=4000000000):
 Calls Tryz.prog 131 #[.int .i64 V,.int .i64 K,.pointer (some ⟨a,0,none⟩)] w λe w'=>e= .returned (.tuple #[])/\BO n w0 w' a (b++aH v k)/\iY w w':=by
 subst c d;exact D6 n w0 w a b v k h f g hl
theorem uE {a:Act} {c:Oper} {W:World} {x i:Operand} (f:c.op= .index 9 x i) {p:ByteArray} (g:a.eval x= .string p) {I:Int} (j:a.eval i= .int .i64 I) (k:Nat) (l:I=(k:Int)) (d:k<p.size):
 (execOp a.eval c).run Tryz.prog W= .ok (.value (.int .u8 ((p.data.toList.getD k 0).toNat:Int))) W:=by
 subst l;have b:=run_index_string (P:=Tryz.prog) W 9 p .i64 (k:Int) Tryz.underlying9;rw[dif_pos oO]at b
 have e:p[(k:Int).toNat]'(by simpa using d)=p.data.toList.getD k 0:=by
  have hl:k<p.data.toList.length:=by simpa using d
  rw[List.getD,List.getElem?_eq_getElem hl];rfl
 rw[e]at b;unfold execOp;simp only[f,g,j,b,Sem.run_bind,Sem.run_pure,Result.andThen_ok]
theorem oe (p:ByteArray) (a:Nat):∀k,(byF p a k).length=8* k
 |0=>rfl
 |k+1=>by unfold byF;rw[List.length_append,oe p a k,aN];omega
theorem Cg {a:Act} {b:Oper} {W:World} {hb l:Nat} {c:Nat->Nat->Option aA} (h:cU W hb l c) {m x:Operand} (d:b.op= .lookup 173 m x false) (e:a.eval m= .map (some hb)) (at_ i:Nat) (f:a.eval x= .agg #[.int .i64 (at_:Int),.int .i64 (i:Int)])
 (g:at_<=4096) (j:i<5) (y:aA) (k:c at_ i=some y):(execOp a.eval b).run Tryz.prog W= .ok (.value y.val) W:=by
 have n:=h.lookup at_ i y g j k;unfold execOp;simp only[d,e,f,n,Sem.run_bind,Sem.run_pure,Result.andThen_ok]
theorem eT {d:Array Oper} {S:World->Prop} {K:Act->World->Prop} {r:List (Bool×Nat×Oper)} {k:Nat} {c:Oper} {a:Act} {W:World} (t:TypeId) (l:Region.wanted c (yielded d a.tmps)=true) (f:c.op= .alloc t) (b:Array Value) (e:(Tryz.prog.info? t).map (·.zero)=some (some (.agg b)))
 (g:S (W.alloc (.cells b t))) (j:bB Tryz.prog d S K r (a.put c.dst (.pointer (some ⟨W.heap.size,0,none⟩))) (W.alloc (.cells b t))):bB Tryz.prog d S K ((true,k,c)::r) a W:=by
 cases hq:Tryz.prog.info? t with
 |none=>simp[hq]at e
 |some i=>
  have m:i.zero=some (.agg b):=by simpa[hq]using e
  have n:(Instr.alloc t true (.tuple #[])).run Tryz.prog W= .ok (.pointer (some ⟨W.heap.size,0,none⟩)) (W.alloc (.cells b t)):=by
   simp[Instr.alloc,zeroValue,typeInfo,hq,m,newVar,newRow,Value.cells]
  refine gR l ?_ g j;unfold execOp;simp only[f,Sem.run_bind,Sem.run_pure,Result.andThen_ok,n]
theorem uJ {g:Array Oper} {S:World->Prop} {K:Act->World->Prop} {r:List (Bool×Nat×Oper)} {k:Nat} {d:Oper} {a:Act} {W:World} (f:TypeId) (u:Region.wanted d (yielded g a.tmps)=true) (p x:Operand) (j:d.op= .store f p x) (t:TypeId) (c:Array Value) (b:List Value)
 (l:a.eval p= .pointer (some ⟨W.heap.size,0,none⟩)) (m:a.eval x= .agg b.toArray) (n:(Tryz.prog.info? f).map (·.size)=some b.length) (w:b.length=c.size) (o:∀v∈b,v.oneCell'=true)
 (q:S (W.alloc (.cells b.toArray t))) (s:bB Tryz.prog g S K r (a.put d.dst undef) (W.alloc (.cells b.toArray t))):bB Tryz.prog g S K ((true,k,d)::r) a (W.alloc (.cells c t)):=by
 have i:=ku (P:=Tryz.prog) (W.alloc (.cells c t)) t f W.heap.size 0 c b (heap_alloc_new _ _) n oO o;have e:(splice c.toList 0 b).toArray=b.toArray:=by
  unfold splice;rw[List.take_zero,List.nil_append,List.drop_eq_nil_of_le (by simp[w]),List.append_nil]
 rw[e,World.setRow_alloc_new]at i;refine .inl ⟨u,?_⟩;unfold execOp;simp only[j,l,m,Instr.storeAt,Instr.sureAddr,Sem.run_bind,Sem.run_pure,Result.andThen_ok,i];exact⟨q,s⟩
theorem BO.setRow {n:Nat} {w wr:World} {f b:Nat} {i:List Bool} {r:Array Value} (h:BO n w wr f i) (hn:n<=b) (a:aa wr b r 179) (l:Array Value):BO n w (wr.setRow b l) f i:=by
 obtain⟨A,c,d,j⟩:=h.X;refine⟨below_setRow h.B hn _,⟨A,c,d.other _ ?_,j.1,?_⟩,h.n1,by rw[size_setRow];exact h.n2⟩
 ·intro e;subst e;unfold aa at d a;rw[d]at a;injection a with a;injection a with _ e _;exact absurd e oD
 ·rcases j.2 with m|⟨g,cap,s,o,p,k,q⟩
  ·exact .inl m
  ·refine .inr ⟨g,cap,s,o,p,(setRow_other _ _ _ _ ?_).trans k,q⟩;intro e;subst e;unfold aa at a;rw[k]at a;injection a with a;injection a with _ e _;exact absurd e oD
theorem pz {W:World} {b:Nat} {d:aA} (h:ak W b d.aE):∀j v,[Value.int .i64 (d.at_:Int),.int .i64 (d.mode:Int)][j]?=some v->W.cell? ((⟨b,5,none⟩:Addr).add j)=some v:=by
 intro j v a;have c:=sQ h;rw[add_plain]
 match j,a with
 |0,a=>simp only[List.getElem?_cons_zero,Option.some.injEq]at a;rw[<-a];exact c.2.2.2.2.2.1
 |1,a=>simp only[List.getElem?_cons_succ,List.getElem?_cons_zero,Option.some.injEq]at a;rw[<-a];exact c.2.2.2.2.2.2
 |j+2,a=>simp at a
def DY (W:World) (c:Nat) (v:Value):Nat:=match v with
 |.pointer (some b)=>(match W.cell? ⟨b.block,0,none⟩,W.cell? ⟨b.block,1,none⟩with|some (.int _ a),some (.int _ m)=>ma W c a.toNat m.toNat|_,_=>0)
 |_=>0
theorem Gw {W:World} {e c cap hb b a m:Nat} {p:ByteArray} {C:Nat->Nat->Nat} (h:SW W e c cap hb p C) (d:aa W b #[.int .i64 (a:Int),.int .i64 (m:Int)] 179) (f:a<=p.size) (g:m<5):DY W c (.pointer (some ⟨b,0,none⟩))=C a m:=by
 have i:W.cell? ⟨b,0,none⟩=some (.int .i64 (a:Int)):=d.cell 0 _ rfl;have j:W.cell? ⟨b,1,none⟩=some (.int .i64 (m:Int)):=d.cell 1 _ rfl;unfold DY;simp only[i,j,Int.toNat_natCast];unfold ma;rw[h.cz a m f g];simp
theorem IL (w:World) (J ap cap hb ca:Nat) (p:ByteArray) (C:Nat->Nat->Nat) (A:Nat->Nat->Option aA) (O:SQ w J ap cap hb p C) (cq:cU w hb ca A)
 (c4:∀a m,a<p.size->m<5->∃b,A a m=some b/\L5 p C a m b):
 Calls Tryz.prog 81 #[.pointer (some ⟨J,0,none⟩)] w λe w'=>∃v,e= .returned v/\SG vB false w' v (fQ p A (C 0 0) 0 0)/\Below w.heap.size w w':=by
 obtain⟨dz,dE,d4,d5,d6⟩:=info_parts iO;have ex:=O.S.hp;have P:Hid (∀W,Below w.heap.size w W->SQ W J ap cap hb p C/\cU W hb ca A):=λW n=>⟨O.below n,cq.below n⟩;have d7:=Lib.hid c4;have d0:=O.S.cc;have b4:=O.S.cz 0 0 oO oO;have bv:Hid (C 0 0<=1073741824):=O.S.b 0 0;have fv:=O.S.hc;simp only[Nat.zero_mul,Nat.zero_add]at b4;obtain⟨c0,cb⟩:∃c0,c0=C 0 0:=⟨_,rfl⟩;rw[<-cb]at b4 bv⊢;have c5:=Lib.hid cb;clear O cq c4 cb;go_enter Tryz.func81,Tryz.ntmps81
 go_wp2_with(first
  |(at_make;refine wpList_make_own _ rfl _ _ _ rfl w.heap.size 4 dz _ 1 Tryz.underlying26 dE d4 d5 .i64 .i64 _ c0 rfl rfl rfl (by have:=bv.out;rw[d6];omega) (by have:=bv.out;unfold maxLen;omega) (Nat.le_refl _) ?_;intro E dl hg;have M:=Lib.hid dl;have av:Hid (Below w.heap.size w E):=(Below.refl _ _).grown hg (Nat.le_refl _) (λq hq=>by cases hq);clear dl hg)
  |((with_reducible show wpList _ _ _ (⟨_,Op.alloc 179,_,_,_,_⟩::_) _ _);refine aO rfl 179 rfl _ j3 ?_)
  |((with_reducible show wpList _ _ _ (⟨_,Op.store 179 _ _,_,_,_,_⟩::_) _ _);refine aV rfl 179 _ _ rfl 179 _ [_,_] rfl rfl dI rfl (fU _ _) ?_))
 simp only[yQ,yU,yX,yY];have dn:Hid (BO w.heap.size w ((E.alloc (.cells #[.slice (some ⟨w.heap.size,0,none⟩) 0 c0] 26)).alloc (.cells #[.int .i64 0,.int .i64 0] 179)) E.heap.size []):=by
  refine BO.below (wr:=E.alloc (.cells #[.slice (some ⟨w.heap.size,0,none⟩) 0 c0] 26)) ⟨av.out.alloc av.out.size _,⟨_,c0,aa.new _ _ _ _ rfl,M.out.alloc _⟩,av.out.size,?_⟩ (ax _ _);have:=av.out.size;simp;omega
 have ds:Hid (aa ((E.alloc (.cells #[.slice (some ⟨w.heap.size,0,none⟩) 0 c0] 26)).alloc (.cells #[.int .i64 0,.int .i64 0] 179)) (E.alloc (.cells #[.slice (some ⟨w.heap.size,0,none⟩) 0 c0] 26)).heap.size #[.int .i64 0,.int .i64 0] 179):=aa.new _ _ _ _ rfl;have dv:Hid (w.heap.size<=(E.alloc (.cells #[.slice (some ⟨w.heap.size,0,none⟩) 0 c0] 26)).heap.size):=by have:=av.out.size;show _<=_;simp;omega
 clear M av d0 b4;generalize(E.alloc (.cells #[.slice (some ⟨w.heap.size,0,none⟩) 0 c0] 26)).alloc (.cells #[.int .i64 0,.int .i64 0] 179)=ey at*;generalize(E.alloc (.cells #[.slice (some ⟨w.heap.size,0,none⟩) 0 c0] 26)).heap.size=d8 at*;generalize E.heap.size=k at*
 trace_state
 go_loopw [5] (λb5 wr=>∃(c a m f:Nat) (g:List Bool),b5= .pointer (some ⟨c,0,none⟩)/\a<=p.size/\m<5/\w.heap.size<=c/\Hid (aa wr c #[.int .i64 (a:Int),.int .i64 (m:Int)] 179)/\Hid (BO w.heap.size w wr k g)/\Hid (g++fQ p A f a m=fQ p A c0 0 0)/\Hid (C a m<=f)/\Hid (g.length+C a m<=c0)) (λb5 wr=>DY wr ap b5)
 case atStart=>exact⟨d8,0,0,c0,[],rfl,Nat.zero_le _,by omega,dv.out,ds.out,dn.out,rfl,by show _<=_;rw[c5.out];exact Nat.le_refl _,by show _<=_;rw[c5.out];simp⟩
 case round=>
  clear dn ds dv;obtain⟨c,a,m,f,g,rfl,d1,b6,bx,hF,r,bi,b7,bo⟩:=hrel;have a3:Hid (∀W,af wr W->W.cell? ⟨J,0,none⟩=some (.string p)/\W.cell? ⟨J,482,none⟩=some (.map (some hb))/\W.cell? ⟨c,0,none⟩=some (.int .i64 (a:Int))/\W.cell? ⟨c,1,none⟩=some (.int .i64 (m:Int))):=by
   show∀W,_;intro W n;have t:=(P.out W (r.out.B.trans (n.mono r.out.n2))).1.S;have cs:=hF.out.below n;exact⟨t.c0,t.cm,cs.cell 0 _ rfl,cs.cell 1 _ rfl⟩
  by_cases ce:a<p.size
  ·obtain⟨b,b8,B⟩:=d7.out a m ce b6;have bz:=Lib.hid B;have d9:=Lib.hid b8;have c6:Hid (DY wr ap (.pointer (some ⟨c,0,none⟩))=C a m):=Gw (P.out wr r.out.B).1.S hF.out d1 b6
   have b3:Hid (∀(V:Nat) (W:World),w.heap.size<=V->aa W V #[.int .i64 (b.at_:Int),.int .i64 (b.mode:Int)] 179->BO w.heap.size w W k (g++cr p a m b)->
    (∃(c a m f:Nat) (g:List Bool),Value.pointer (some ⟨V,0,none⟩)= .pointer (some ⟨c,0,none⟩)/\a<=p.size/\m<5/\w.heap.size<=c/\Hid (aa W c #[.int .i64 (a:Int),.int .i64 (m:Int)] 179)/\Hid (BO w.heap.size w W k g)/\Hid (g++fQ p A f a m=fQ p A c0 0 0)/\Hid (C a m<=f)/\Hid (g.length+C a m<=c0))/\DY W ap (.pointer (some ⟨V,0,none⟩))<DY wr ap (.pointer (some ⟨c,0,none⟩))):=by
    show∀(V:Nat) (W:World),_;intro V W d2 cv cx;have ez:C a m=b.size+C b.at_ b.mode:=B.eq;have e9:=B.ps;have fb:=B.ln;have fc:=b7.out;have fd:=bo.out;obtain⟨a4,rfl⟩:∃a4,f=a4+1:=⟨f-1,by omega⟩;refine⟨⟨V,b.at_,b.mode,a4,g++cr p a m b,rfl,B.le,B.md,d2,cv,cx,?_,?_,?_⟩,?_⟩
    ·have t:=bi.out;have e1:fQ p A (a4+1) a m=cr p a m b++fQ p A a4 b.at_ b.mode:=by
      show(if a<p.size then _ else _)=_;rw[if_pos ce,b8]
     rw[e1,<-List.append_assoc]at t;exact t
    ·show _<=_;omega
    ·show _<=_;rw[List.length_append];omega
    ·rw[c6.out,Gw (P.out W cx.B).1.S cv B.le B.md];omega
   have X:Hid (g.length<=1073741824):=by show _<=_;have:=bo.out;have:=bv.out;omega
   have fn:=fR m;have fo:=B.nm;have ea:=B.s1;have ec:=B.s2;have c7:b.run<=4096:=by have:=B.rn;omega
   have ed:=P.out wr r.out.B;clear bi b7 bo c6 b8 B ed;go_wp2;refine yO (af wr) [1,2,3,4,5,6,7,8] (aj (Below.refl _ _)) ?_
   repeat refine zO a3.out ?_
   refine ag ?_;have b1:Hid (aa wr.drew c #[.int .i64 (a:Int),.int .i64 (m:Int)] 179):=hF.out.below (aj (Below.refl _ _));have M:Hid (BO w.heap.size w wr.drew k g):=r.out.below (aj (Below.refl _ _));have a0:Hid (∀W,af wr.drew W->W.cell? ⟨J,482,none⟩=some (.map (some hb))):=λW n=>(a3.out W (ae (aj (Below.refl _ _)) n)).2.1;clear hF r a3;go_wp2;generalize ef:wr.drew=K at b1 M a0⊢;clear ef;have c8:Hid (∀W,af K W->cU W hb ca A):=λW n=>(P.out W (M.out.B.trans (n.mono M.out.n2))).2;refine yO (af K) [1,2,3,4,5,6,0,7,8] (aj (Below.refl _ _)) ?_;refine zO a0.out ?_;refine zO a0.out ?_;refine zO a0.out ?_;refine zO a0.out ?_;refine' zV rfl (λW n=>kb 179 _ Tryz.underlying179 rfl rfl c [_,_] dI rfl (b1.out.below n).cells) ?_;refine' zV rfl (λW n=>Cg (c8.out W n) rfl rfl a m rfl oO b6 b d9.out) ?_;refine' eT 181 rfl rfl _ mG (ah (aj (Below.refl _ _)) _) ?_;simp only[yQ,yU,yX,yY];refine' uJ 181 rfl _ _ rfl 181 _ b.aE rfl rfl fH rfl b.one (ah (aj (Below.refl _ _)) _) ?_;simp only[Act.put];refine ag ?_;have a8:Hid (aa (K.drew.alloc (.cells b.aE.toArray 181)) c #[.int .i64 (a:Int),.int .i64 (m:Int)] 179/\aa (K.drew.alloc (.cells b.aE.toArray 181)) K.drew.heap.size b.aE.toArray 181):=⟨b1.out.below (ah (aj (Below.refl _ _)) _),aa.new _ _ _ _ rfl⟩;have c9:Hid (BO w.heap.size w (K.drew.alloc (.cells b.aE.toArray 181)) k g):=M.out.below (ah (aj (Below.refl _ _)) _);clear b1 M a0 c8;generalize K.drew.alloc (.cells b.aE.toArray 181)=bq at*;generalize K.drew.heap.size=j at*;go_wp2;have a1:Hid (∀W,(aa W c #[.int .i64 (a:Int),.int .i64 (m:Int)] 179/\aa W j b.aE.toArray 181)->W.cell? ⟨j,0,none⟩=some (.int .i64 (b.num:Int))/\W.cell? ⟨c,1,none⟩=some (.int .i64 (m:Int))):=λW n=>⟨n.2.cell 0 _ rfl,n.1.cell 1 _ rfl⟩;refine yO (λW=>aa W c #[.int .i64 (a:Int),.int .i64 (m:Int)] 179/\aa W j b.aE.toArray 181) [1,2,3,4,5,0,6,7] a8.out ?_;refine zO a1.out ?_;refine zO a1.out ?_;refine zO a1.out ?_;refine zO a1.out ?_;refine zO a1.out ?_;refine zZ ?_;refine(fi m _).mono ?_;rintro e eA ⟨rfl,da⟩;rw[da];clear da;refine⟨_,rfl,a8.out,jO ?_⟩;refine zZ ?_;have dx:Hid (BO w.heap.size w bq.drew k g):=c9.out.below (aj (Below.refl _ _));refine(D6 w.heap.size w bq.drew k g b.num (an m) dx.out oO oO (by have:=X.out;omega)).mono ?_;rintro e u ⟨rfl,s,l⟩;have ab:=Lib.hid s;have y:Hid (aa u c #[.int .i64 (a:Int),.int .i64 (m:Int)] 179/\aa u j b.aE.toArray 181):=⟨aa.dD (w:=bq.drew) a8.out.1 l (by simp[notBits]),aa.dD (w:=bq.drew) a8.out.2 l (by simp[notBits])⟩;clear s l c9 dx a8 a1;refine⟨_,rfl,y.out,jO ?_⟩;refine ag ?_;have a2:=Lib.hid (aN b.num (an m));have b9:u.cell? ⟨j,1,none⟩=some (.int .i64 b.sec):=y.out.2.cell 1 _ rfl;have Q:u.cell? ⟨j,2,none⟩=some (.int .i64 (b.run:Int)):=y.out.2.cell 2 _ rfl;have bs:u.cell? ⟨j,3,none⟩=some (.bool b.long):=y.out.2.cell 3 _ rfl;by_cases F:0<=b.sec
   ·obtain⟨bt,ch⟩:=Int.eq_ofNat_of_zero_le F;have N:=bz.out.sr F;have G:Hid (cr p a m b=aH b.num (an m)++aH bt 5):=by
     show _=_;unfold cr mj;rw[if_pos F,N,if_neg oO,List.append_nil,ch];rfl
    rw[ch]at b9 ec;rw[N]at Q;have fx:bt<32:=oO;clear F ea ch Q
    go_wp2_with(first
     |(go_at_call 131;(with_reducible show Calls _ _ _ u _);refine(oa w.heap.size w u k (g++aH b.num (an m)) bt 5 _ _ rfl rfl ab.out oO oO (by have:=X.out;have:=a2.out;simp only[List.length_append,aN];omega)).mono ?_;rintro e z ⟨rfl,s,l⟩;have a9:=Lib.hid s;have H:Hid (aa z c #[.int .i64 (a:Int),.int .i64 (m:Int)] 179/\aa z j b.aE.toArray 181):=⟨y.out.1.dD l (by simp[notBits]),y.out.2.dD l (by simp[notBits])⟩;have dy:z.cell? ⟨j,2,none⟩=some (.int .i64 0):=(by have t:z.cell? ⟨j,2,none⟩=some (.int .i64 (b.run:Int)):=H.out.2.cell 2 _ rfl;rw[N]at t;exact t);have D:Hid (aa z c #[.int .i64 (a:Int),.int .i64 (m:Int)] 179):=H.out.1;have Y:Hid (ak z j b.aE):=H.out.2.cells;clear s l)
     |((with_reducible show wpList _ _ _ (⟨_,Op.load 179 _,_,_,_,_⟩::_) _ _);first|refine bk rfl 179 _ rfl _ Tryz.underlying179 rfl ⟨j,5,none⟩ [.int .i64 (b.at_:Int),.int .i64 (b.mode:Int)] dI rfl (pz Y.out) ?_|refine bk rfl 179 _ rfl _ Tryz.underlying179 rfl ⟨c,0,none⟩ [.int .i64 (b.at_:Int),.int .i64 (b.mode:Int)] dI rfl (gK ((D.out.set _).cells)) ?_)
     |((with_reducible show wpList _ _ _ (⟨_,Op.alloc 179,_,_,_,_⟩::_) _ _);refine aO rfl 179 rfl _ j3 ?_)
     |((with_reducible show wpList _ _ _ (⟨_,Op.store 179 _ _,_,_,_,_⟩::_) _ _);first|(refine bG rfl 179 _ _ rfl 179 c 0 #[.int .i64 (a:Int),.int .i64 (m:Int)] [.int .i64 (b.at_:Int),.int .i64 (b.mode:Int)] rfl rfl D.out dI (by show 2<=2;omega) (fU _ _) ?_;rw[jz [.int .i64 (a:Int),.int .i64 (m:Int)] [.int .i64 (b.at_:Int),.int .i64 (b.mode:Int)] rfl])|refine aV rfl 179 _ _ rfl 179 _ [_,_] rfl rfl dI rfl (fU _ _) ?_))
    have ac:Hid (BO w.heap.size w ((z.setRow c #[.int .i64 (b.at_:Int),.int .i64 (b.mode:Int)]).alloc (.cells #[.int .i64 (b.at_:Int),.int .i64 (b.mode:Int)] 179)) k (g++cr p a m b)):=by
     have t:=(a9.out.setRow bx H.out.1 #[.int .i64 (b.at_:Int),.int .i64 (b.mode:Int)]).below (ax _ (.cells #[.int .i64 (b.at_:Int),.int .i64 (b.mode:Int)] 179));rw[show g++cr p a m b=(g++aH b.num (an m))++aH bt 5 from(by rw[G.out,List.append_assoc])];exact t
    have ad:w.heap.size<=z.heap.size:=a9.out.n2;exact b3.out _ _ (by simpa using ad) (aa.new _ _ _ _ oS) ac.out
   have fr:decide ((0:Int)<=b.sec)=false:=by simp;omega
   by_cases N:b.run=0
   ·have G:Hid (cr p a m b=aH b.num (an m)):=by
     show _=_;unfold cr mj;rw[if_neg F,N,if_neg oO,List.append_nil,List.append_nil]
    rw[N]at Q;clear F;have D:Hid (aa u c #[.int .i64 (a:Int),.int .i64 (m:Int)] 179):=y.out.1;have Y:Hid (ak u j b.aE):=y.out.2.cells
    go_wp2_with(first
     |((with_reducible show wpList _ _ _ (⟨_,Op.load 179 _,_,_,_,_⟩::_) _ _);first|refine bk rfl 179 _ rfl _ Tryz.underlying179 rfl ⟨j,5,none⟩ [.int .i64 (b.at_:Int),.int .i64 (b.mode:Int)] dI rfl (pz Y.out) ?_|refine bk rfl 179 _ rfl _ Tryz.underlying179 rfl ⟨c,0,none⟩ [.int .i64 (b.at_:Int),.int .i64 (b.mode:Int)] dI rfl (gK ((D.out.set _).cells)) ?_)
     |((with_reducible show wpList _ _ _ (⟨_,Op.alloc 179,_,_,_,_⟩::_) _ _);refine aO rfl 179 rfl _ j3 ?_)
     |((with_reducible show wpList _ _ _ (⟨_,Op.store 179 _ _,_,_,_,_⟩::_) _ _);first|(refine bG rfl 179 _ _ rfl 179 c 0 #[.int .i64 (a:Int),.int .i64 (m:Int)] [.int .i64 (b.at_:Int),.int .i64 (b.mode:Int)] rfl rfl D.out dI (by show 2<=2;omega) (fU _ _) ?_;rw[jz [.int .i64 (a:Int),.int .i64 (m:Int)] [.int .i64 (b.at_:Int),.int .i64 (b.mode:Int)] rfl])|refine aV rfl 179 _ _ rfl 179 _ [_,_] rfl rfl dI rfl (fU _ _) ?_))
    have ac:Hid (BO w.heap.size w ((u.setRow c #[.int .i64 (b.at_:Int),.int .i64 (b.mode:Int)]).alloc (.cells #[.int .i64 (b.at_:Int),.int .i64 (b.mode:Int)] 179)) k (g++cr p a m b)):=by
     have t:=(ab.out.setRow bx y.out.1 #[.int .i64 (b.at_:Int),.int .i64 (b.mode:Int)]).below (ax _ (.cells #[.int .i64 (b.at_:Int),.int .i64 (b.mode:Int)] 179));rw[show g++cr p a m b=g++aH b.num (an m)from(by rw[G.out])];exact t
    have ad:w.heap.size<=u.heap.size:=ab.out.n2;exact b3.out _ _ (by simpa using ad) (aa.new _ _ _ _ oS) ac.out
   cases a5:b.long with
   |true=>
    rw[a5]at bs;have en:=bz.out.lg oO a5;have G:Hid (g++cr p a m b=(((g++aH b.num (an m))++aH 0 5)++aH (b.run-31) 11)++byF p a b.run):=by
     show _=_;unfold cr mj;rw[if_neg F,if_pos oO,if_pos a5,List.append_nil];simp only[List.append_assoc]
    have cp:a+b.run<=p.size:=bz.out.rn;obtain⟨rn,al⟩:∃rn,rn=b.run:=⟨_,rfl⟩;have b2:=Lib.hid al;rw[<-al]at N c7 en cp G Q;clear al;have fz:IntKind.i64.wrap ((rn:Int)-31)=((rn-31:Nat):Int):=by rw[aG _ oO oO];omega
    have eh:0<rn:=oO;clear F;go_wp2_with(go_at_call 131;(with_reducible show Calls _ _ _ u _);refine(oa w.heap.size w u k (g++aH b.num (an m)) 0 5 _ _ rfl rfl ab.out oO oO (by have:=X.out;have:=a2.out;simp only[List.length_append,aN];omega)).mono ?_;rintro e z ⟨rfl,s,l⟩;have a9:=Lib.hid s;have H:Hid (aa z c #[.int .i64 (a:Int),.int .i64 (m:Int)] 179/\aa z j b.aE.toArray 181):=⟨y.out.1.dD l (by simp[notBits]),y.out.2.dD l (by simp[notBits])⟩;have dy:z.cell? ⟨j,2,none⟩=some (.int .i64 (rn:Int)):=(by rw[b2.out];exact H.out.2.cell 2 _ rfl);clear s l)
    clear ab y b9 Q bs;go_wp2_with(go_at_call 131;(with_reducible show Calls _ _ _ z _);refine(oa w.heap.size w z k ((g++aH b.num (an m))++aH 0 5) (rn-31) 11 _ _ rfl rfl a9.out oO oO (by have:=X.out;have:=a2.out;simp only[List.length_append,aN];omega)).mono ?_;rintro e S ⟨rfl,s,l⟩;have bb:=Lib.hid s;have am:Hid (aa S c #[.int .i64 (a:Int),.int .i64 (m:Int)] 179/\aa S j b.aE.toArray 181):=⟨H.out.1.dD l (by simp[notBits]),H.out.2.dD l (by simp[notBits])⟩;have ew:S.cell? ⟨j,2,none⟩=some (.int .i64 (rn:Int)):=(by rw[b2.out];exact am.out.2.cell 2 _ rfl);clear s l)
    clear a9 H dy;have ci:Hid ((((g++aH b.num (an m))++aH 0 5)++aH (rn-31) 11).length<=1073742000):=by show _<=_;have:=X.out;have:=a2.out;simp only[List.length_append,aN];omega
    generalize((g++aH b.num (an m))++aH 0 5)++aH (rn-31) 11=L at*;go_loopw [64] (λT wr=>∃i:Nat,i<=rn/\T= .int .i64 i/\Hid (BO w.heap.size w wr k (L++byF p a i))/\Hid (aa wr c #[.int .i64 (a:Int),.int .i64 (m:Int)] 179/\aa wr j b.aE.toArray 181)) (λT _=>rn-(intOf T).toNat)
    case atStart=>exact⟨0,Nat.zero_le _,rfl,by show BO _ _ _ _ _;rw[show byF p a 0=[]from rfl,List.append_nil];exact bb.out,am.out⟩
    case round=>
     clear bb am;obtain⟨i,ei,rfl,r,hF⟩:=hrel;by_cases eq:i<rn
     ·obtain⟨x,a6⟩:∃x,x=(p.data.toList.getD (a+i) 0).toNat:=⟨_,rfl⟩;have Z:=Lib.hid a6;have o:Hid (∀W,(Below w.heap.size w W/\aa W c #[.int .i64 (a:Int),.int .i64 (m:Int)] 179)->W.cell? ⟨J,0,none⟩=some (.string p)/\W.cell? ⟨c,0,none⟩=some (.int .i64 (a:Int))):=λW n=>⟨(P.out W n.1).1.S.c0,n.2.cell 0 _ rfl⟩;have ck:a+i<p.size:=oO;have er:IntKind.i64.wrap ((a:Int)+(i:Int))=((a+i:Nat):Int):=by rw[aG _ oO oO];omega
      clear a6;go_wp2;refine yO (λW=>Below w.heap.size w W/\aa W c #[.int .i64 (a:Int),.int .i64 (m:Int)] 179) [1,2,3,4,5,6,7,8,9,10,11,0,12] ⟨aj r.out.B,hF.out.1⟩ ?_;refine zO o.out ?_;refine zO o.out ?_;refine zO o.out ?_;refine zO o.out ?_;refine zO o.out ?_;refine zO o.out ?_;refine zO o.out ?_;refine zO o.out ?_;refine zO o.out ?_;refine' zV rfl (λW n=>uE rfl rfl rfl (a+i) rfl ck) ?_;rw[<-Z.out];have es:x<256:=by rw[Z.out];exact UInt8.toNat_lt _
      refine zO o.out ?_;refine zZ ?_;have a7:Hid (BO w.heap.size w wr.drew k (L++byF p a i)):=r.out.below (aj (Below.refl _ _));rw[show IntKind.i64.wrap (x:Int)=(x:Int)from aG _ oO oO];refine(oa w.heap.size w wr.drew k (L++byF p a i) x 8 _ _ rfl rfl a7.out oO oO (by have:=ci.out;rw[List.length_append,oe];omega)).mono ?_;rintro e U ⟨rfl,s,l⟩;have bd:Hid (BO w.heap.size w U k (L++byF p a (i+1))):=by
       show BO _ _ _ _ _;rw[show byF p a (i+1)=byF p a i++aH x 8 from by rw[Z.out];rfl,<-List.append_assoc];exact s
      have be:Hid (aa U c #[.int .i64 (a:Int),.int .i64 (m:Int)] 179/\aa U j b.aE.toArray 181):=⟨aa.dD (w:=wr.drew) hF.out.1 l (by simp[notBits]),aa.dD (w:=wr.drew) hF.out.2 l (by simp[notBits])⟩;clear s l r hF a7 o;refine⟨_,rfl,⟨bd.out.B,be.out.1⟩,jO ?_⟩;refine ag ?_;go_wp2;exact⟨⟨i+1,by omega,by go_num,bd.out,be.out⟩,by simp[intOf];omega⟩
     ·have co:i=rn:=oO;have bf:Hid (BO w.heap.size w wr k (L++byF p a rn)):=by rw[<-co];exact r.out
      clear r;have D:Hid (aa wr c #[.int .i64 (a:Int),.int .i64 (m:Int)] 179):=hF.out.1;have Y:Hid (ak wr j b.aE):=hF.out.2.cells
      go_wp2_with(first
       |((with_reducible show wpList _ _ _ (⟨_,Op.load 179 _,_,_,_,_⟩::_) _ _);first|refine bk rfl 179 _ rfl _ Tryz.underlying179 rfl ⟨j,5,none⟩ [.int .i64 (b.at_:Int),.int .i64 (b.mode:Int)] dI rfl (pz Y.out) ?_|refine bk rfl 179 _ rfl _ Tryz.underlying179 rfl ⟨c,0,none⟩ [.int .i64 (b.at_:Int),.int .i64 (b.mode:Int)] dI rfl (gK ((D.out.set _).cells)) ?_)
       |((with_reducible show wpList _ _ _ (⟨_,Op.alloc 179,_,_,_,_⟩::_) _ _);refine aO rfl 179 rfl _ j3 ?_)
       |((with_reducible show wpList _ _ _ (⟨_,Op.store 179 _ _,_,_,_,_⟩::_) _ _);first|(refine bG rfl 179 _ _ rfl 179 c 0 #[.int .i64 (a:Int),.int .i64 (m:Int)] [.int .i64 (b.at_:Int),.int .i64 (b.mode:Int)] rfl rfl D.out dI (by show 2<=2;omega) (fU _ _) ?_;rw[jz [.int .i64 (a:Int),.int .i64 (m:Int)] [.int .i64 (b.at_:Int),.int .i64 (b.mode:Int)] rfl])|refine aV rfl 179 _ _ rfl 179 _ [_,_] rfl rfl dI rfl (fU _ _) ?_))
      have ac:Hid (BO w.heap.size w ((wr.setRow c #[.int .i64 (b.at_:Int),.int .i64 (b.mode:Int)]).alloc (.cells #[.int .i64 (b.at_:Int),.int .i64 (b.mode:Int)] 179)) k (g++cr p a m b)):=by
       have t:=(bf.out.setRow bx hF.out.1 #[.int .i64 (b.at_:Int),.int .i64 (b.mode:Int)]).below (ax _ (.cells #[.int .i64 (b.at_:Int),.int .i64 (b.mode:Int)] 179));rw[show g++cr p a m b=L++byF p a rn from G.out];exact t
      have ad:w.heap.size<=wr.heap.size:=bf.out.n2;exact b3.out _ _ (by simpa using ad) (aa.new _ _ _ _ oS) ac.out
   |false=>
    rw[a5]at bs;have G:Hid (g++cr p a m b=((g++aH b.num (an m))++aH b.run 5)++byF p a b.run):=by
     show _=_;unfold cr mj;rw[if_neg F,if_pos oO,if_neg (by rw[a5];simp),List.append_nil];simp only[List.append_assoc]
    have cp:a+b.run<=p.size:=bz.out.rn;obtain⟨rn,al⟩:∃rn,rn=b.run:=⟨_,rfl⟩;have b2:=Lib.hid al;rw[<-al]at N c7 cp G Q;clear al;have eh:0<rn:=oO;clear F;go_wp2_with(go_at_call 131;(with_reducible show Calls _ _ _ u _);refine(oa w.heap.size w u k (g++aH b.num (an m)) rn 5 _ _ rfl rfl ab.out oO oO (by have:=X.out;have:=a2.out;simp only[List.length_append,aN];omega)).mono ?_;rintro e S ⟨rfl,s,l⟩;have bb:=Lib.hid s;have am:Hid (aa S c #[.int .i64 (a:Int),.int .i64 (m:Int)] 179/\aa S j b.aE.toArray 181):=⟨y.out.1.dD l (by simp[notBits]),y.out.2.dD l (by simp[notBits])⟩;have ew:S.cell? ⟨j,2,none⟩=some (.int .i64 (rn:Int)):=(by rw[b2.out];exact am.out.2.cell 2 _ rfl);clear s l)
    clear ab y b9 Q bs;have ci:Hid (((g++aH b.num (an m))++aH rn 5).length<=1073742000):=by show _<=_;have:=X.out;have:=a2.out;simp only[List.length_append,aN];omega
    generalize(g++aH b.num (an m))++aH rn 5=L at*;go_loopw [64] (λT wr=>∃i:Nat,i<=rn/\T= .int .i64 i/\Hid (BO w.heap.size w wr k (L++byF p a i))/\Hid (aa wr c #[.int .i64 (a:Int),.int .i64 (m:Int)] 179/\aa wr j b.aE.toArray 181)) (λT _=>rn-(intOf T).toNat)
    case atStart=>exact⟨0,Nat.zero_le _,rfl,by show BO _ _ _ _ _;rw[show byF p a 0=[]from rfl,List.append_nil];exact bb.out,am.out⟩
    case round=>
     clear bb am;obtain⟨i,ei,rfl,r,hF⟩:=hrel;by_cases eq:i<rn
     ·obtain⟨x,a6⟩:∃x,x=(p.data.toList.getD (a+i) 0).toNat:=⟨_,rfl⟩;have Z:=Lib.hid a6;have o:Hid (∀W,(Below w.heap.size w W/\aa W c #[.int .i64 (a:Int),.int .i64 (m:Int)] 179)->W.cell? ⟨J,0,none⟩=some (.string p)/\W.cell? ⟨c,0,none⟩=some (.int .i64 (a:Int))):=λW n=>⟨(P.out W n.1).1.S.c0,n.2.cell 0 _ rfl⟩;have ck:a+i<p.size:=oO;have er:IntKind.i64.wrap ((a:Int)+(i:Int))=((a+i:Nat):Int):=by rw[aG _ oO oO];omega
      clear a6;go_wp2;refine yO (λW=>Below w.heap.size w W/\aa W c #[.int .i64 (a:Int),.int .i64 (m:Int)] 179) [1,2,3,4,5,6,7,8,9,10,11,0,12] ⟨aj r.out.B,hF.out.1⟩ ?_;refine zO o.out ?_;refine zO o.out ?_;refine zO o.out ?_;refine zO o.out ?_;refine zO o.out ?_;refine zO o.out ?_;refine zO o.out ?_;refine zO o.out ?_;refine zO o.out ?_;refine' zV rfl (λW n=>uE rfl rfl rfl (a+i) rfl ck) ?_;rw[<-Z.out];have es:x<256:=by rw[Z.out];exact UInt8.toNat_lt _
      refine zO o.out ?_;refine zZ ?_;have a7:Hid (BO w.heap.size w wr.drew k (L++byF p a i)):=r.out.below (aj (Below.refl _ _));rw[show IntKind.i64.wrap (x:Int)=(x:Int)from aG _ oO oO];refine(oa w.heap.size w wr.drew k (L++byF p a i) x 8 _ _ rfl rfl a7.out oO oO (by have:=ci.out;rw[List.length_append,oe];omega)).mono ?_;rintro e U ⟨rfl,s,l⟩;have bd:Hid (BO w.heap.size w U k (L++byF p a (i+1))):=by
       show BO _ _ _ _ _;rw[show byF p a (i+1)=byF p a i++aH x 8 from by rw[Z.out];rfl,<-List.append_assoc];exact s
      have be:Hid (aa U c #[.int .i64 (a:Int),.int .i64 (m:Int)] 179/\aa U j b.aE.toArray 181):=⟨aa.dD (w:=wr.drew) hF.out.1 l (by simp[notBits]),aa.dD (w:=wr.drew) hF.out.2 l (by simp[notBits])⟩;clear s l r hF a7 o;refine⟨_,rfl,⟨bd.out.B,be.out.1⟩,jO ?_⟩;refine ag ?_;go_wp2;exact⟨⟨i+1,by omega,by go_num,bd.out,be.out⟩,by simp[intOf];omega⟩
     ·have co:i=rn:=oO;have bf:Hid (BO w.heap.size w wr k (L++byF p a rn)):=by rw[<-co];exact r.out
      clear r;have D:Hid (aa wr c #[.int .i64 (a:Int),.int .i64 (m:Int)] 179):=hF.out.1;have Y:Hid (ak wr j b.aE):=hF.out.2.cells
      go_wp2_with(first
       |((with_reducible show wpList _ _ _ (⟨_,Op.load 179 _,_,_,_,_⟩::_) _ _);first|refine bk rfl 179 _ rfl _ Tryz.underlying179 rfl ⟨j,5,none⟩ [.int .i64 (b.at_:Int),.int .i64 (b.mode:Int)] dI rfl (pz Y.out) ?_|refine bk rfl 179 _ rfl _ Tryz.underlying179 rfl ⟨c,0,none⟩ [.int .i64 (b.at_:Int),.int .i64 (b.mode:Int)] dI rfl (gK ((D.out.set _).cells)) ?_)
       |((with_reducible show wpList _ _ _ (⟨_,Op.alloc 179,_,_,_,_⟩::_) _ _);refine aO rfl 179 rfl _ j3 ?_)
       |((with_reducible show wpList _ _ _ (⟨_,Op.store 179 _ _,_,_,_,_⟩::_) _ _);first|(refine bG rfl 179 _ _ rfl 179 c 0 #[.int .i64 (a:Int),.int .i64 (m:Int)] [.int .i64 (b.at_:Int),.int .i64 (b.mode:Int)] rfl rfl D.out dI (by show 2<=2;omega) (fU _ _) ?_;rw[jz [.int .i64 (a:Int),.int .i64 (m:Int)] [.int .i64 (b.at_:Int),.int .i64 (b.mode:Int)] rfl])|refine aV rfl 179 _ _ rfl 179 _ [_,_] rfl rfl dI rfl (fU _ _) ?_))
      have ac:Hid (BO w.heap.size w ((wr.setRow c #[.int .i64 (b.at_:Int),.int .i64 (b.mode:Int)]).alloc (.cells #[.int .i64 (b.at_:Int),.int .i64 (b.mode:Int)] 179)) k (g++cr p a m b)):=by
       have t:=(bf.out.setRow bx hF.out.1 #[.int .i64 (b.at_:Int),.int .i64 (b.mode:Int)]).below (ax _ (.cells #[.int .i64 (b.at_:Int),.int .i64 (b.mode:Int)] 179));rw[show g++cr p a m b=L++byF p a rn from G.out];exact t
      have ad:w.heap.size<=wr.heap.size:=bf.out.n2;exact b3.out _ _ (by simpa using ad) (aa.new _ _ _ _ oS) ac.out
  ·have d3:Hid (g=fQ p A c0 0 0):=by
    show _=_;rw[<-bi.out];have e1:fQ p A f a m=[]:=by
     cases f with
     |zero=>rfl
     |succ f=>show(if a<p.size then _ else _)=_;rw[if_neg ce]
    rw[e1,List.append_nil]
   obtain⟨c2,c3,dd,de⟩:=r.out.X;have ek:=Lib.hid dd;have el:=Lib.hid de;have em:=Lib.hid r.out.B;clear hF r bi b7 bo dd de;go_wp2;refine yO (af wr) [1,2,3,4,5,6,7,8] (aj (Below.refl _ _)) ?_
   repeat refine zO a3.out ?_
   refine ag ?_;have et:Hid (aa wr.drew k #[.slice c2 g.length c3] 26):=ek.out.below (aj (Below.refl _ _));have e0:wr.drew.cell? ⟨k,0,none⟩=some (.slice c2 g.length c3):=et.out.cell 0 _ rfl;clear a3;go_wp2;go_ret;refine⟨_,rfl,?_,aj em.out⟩;rw[<-d3.out];exact SG.aI (f:=vB) (d:=false) (ar el.out (aj (Below.refl _ _)))
structure cj (p:ByteArray) (C:Nat->Nat->Nat):Prop where
 fix:∀a,a<p.size->lR C p a
 zero:∀a m,p.size<=a->C a m=0
 top:∀a m,C a m<=1073741824
theorem kq (m:Nat):4<=an m:=by unfold an;split<;>omega
theorem zb {C:Nat->Nat->Nat} {num at_ m:Nat} {a:aA} {n sz:Nat} {lg:Bool} (hb:a.mode=m):(cW C num at_ m a n sz lg).mode=m:=by unfold cW;split<;>first|rfl|exact hb
theorem rE {C:Nat->Nat->Nat} {num at_ m:Nat}:∀k,(fj C num at_ m k).mode=m
 |0=>rfl
 |k+1=>zb (rE k)
theorem uN {C:Nat->Nat->Nat} {num at_ m K:Nat}:∀k,(dM C num at_ m K k).mode=m
 |0=>rE K
 |k+1=>zb (uN k)
theorem uI {C C':Nat->Nat->Nat} {num at_ m:Nat} {b:aA} {n sz:Nat} {lg:Bool} (h:∀a,at_<a->C a m=C' a m) (hn:0<n) (c:b.mode=m) (hb:b.run=0\/at_<b.at_):cW C num at_ m b n sz lg=cW C' num at_ m b n sz lg:=by
 have e1:aA.bK C ⟨num,-1,n,lg,sz+8* n,at_+n,m⟩=aA.bK C' ⟨num,-1,n,lg,sz+8* n,at_+n,m⟩:=by
  unfold aA.bK;rw[h _ (by show at_<at_+n;omega)]
 unfold cW;rcases hb with hb|hb
 ·rw[if_pos (.inl hb),if_pos (.inl hb)]
 ·have e2:b.bK C=b.bK C':=by unfold aA.bK;rw[c,h _ hb]
  rw[e1,e2]
theorem sY {C C':Nat->Nat->Nat} {num at_ m:Nat} (h:∀a,at_<a->C a m=C' a m):∀k,fj C num at_ m k=fj C' num at_ m k
 |0=>rfl
 |k+1=>by
  show cW C _ _ _ _ _ _ _=cW C' _ _ _ _ _ _ _;rw[uI h oO (rE k) (ny k),sY h k]
theorem se {C C':Nat->Nat->Nat} {num at_ m K:Nat} (h:∀a,at_<a->C a m=C' a m):∀k,dM C num at_ m K k=dM C' num at_ m K k
 |0=>sY h K
 |k+1=>by
  show cW C _ _ _ _ _ _ _=cW C' _ _ _ _ _ _ _;rw[uI h oO (uN k) (nU k),se h k]
theorem pU {C C':Nat->Nat->Nat} {p:ByteArray} {at_ m:Nat} (h:∀a,at_<a->C a m=C' a m):∀k,bM C p at_ m k=bM C' p at_ m k
 |0=>rfl
 |k+1=>by
  unfold bM;rw[pU h k];congr 1;unfold dZ ff;rw[se h]
theorem sX {C:Nat->Nat->Nat} {p:ByteArray} {at_ m:Nat} {c:aA}:∀k,c∈bM C p at_ m k->0<c.size:=by
 have g:=kq m;have d:∀num k,0<(fj C num at_ m k).size:=by
  intro num k
  induction k with
  |zero=>show 0<1073741824;omega
  |succ k b=>
   show 0<(cW _ _ _ _ _ _ _ _).size;unfold cW;split
   ·show 0<an m+16+8* (31+k);omega
   ·exact b
 have e:∀num K k,0<(dM C num at_ m K k).size:=by
  intro num K k
  induction k with
  |zero=>exact d num K
  |succ k b=>
   show 0<(cW _ _ _ _ _ _ _ _).size;unfold cW;split
   ·show 0<an m+5+8* (1+k);omega
   ·exact b
 have f:∀n,c∈dZ C p at_ m n->0<c.size:=by
  intro n a;unfold dZ at a;split at a
  ·split at a
   ·rw[List.mem_singleton]at a;subst a;show 0<an m;omega
   ·cases a
  split at a
  ·rw[List.mem_singleton]at a;subst a;show 0<an m;omega
  split at a
  ·have key:∀k,c∈optSK p at_ m n (modeF m n) k->0<c.size:=by
    intro k
    induction k with
    |zero=>intro h;cases h
    |succ k b=>
     intro h;unfold optSK at h;rw[List.mem_append]at h;rcases h with h|h
     ·exact b h
     ·unfold mr at h;split at h
      ·rw[List.mem_singleton]at h;subst h;show 0<an m+an (modeF m n);omega
      ·cases h
   exact key 32 a
  split at a
  ·rw[List.mem_singleton]at a;subst a;exact e _ _ _
  ·cases a
 intro k
 induction k with
 |zero=>intro h;cases h
 |succ k b=>
  intro h;unfold bM at h;rw[List.mem_append]at h;rcases h with h|h
  ·exact b h
  ·exact f _ h
theorem cj.Kx {p:ByteArray} {C C':Nat->Nat->Nat} (k:p.size<=4096) (h:cj p C) (l:cj p C') (a:Nat) (g:a<p.size) (i:∀a' m,a<a'->m<5->C a' m=C' a' m):∀x m,m<5->C' a m=x->C a m<=C' a m:=by
 intro x
 induction x using Nat.strongRecOn with
 |ind x r=>
  intro m c u;rcases(l.fix a g).2 m c with n|⟨f,b,e⟩
  ·rw[n];exact h.top a m
  ·have o:bM C' p a m 32=bM C p a m 32:=pU (λa' s=>(i a' m s c).symm) 32;have j:=qv g k c 32 b;have v:=sX 32 b;have t:=x8 32 b;rw[o]at b;have q:=(h.fix a g).1 m c f b;refine Nat.le_trans q ?_;rw[<-e];unfold aA.bK at e⊢;refine Nat.add_le_add_left ?_ _;rcases Nat.eq_or_lt_of_le t with d|d
   ·rw[<-d];rw[<-d]at e;exact r (C' a f.mode) oO f.mode j.2.1 rfl
   ·rw[i _ _ d j.2.1];exact Nat.le_refl _
theorem cj.uniq {p:ByteArray} {C C':Nat->Nat->Nat} (f:p.size<=4096) (h:cj p C) (c:cj p C') (a m:Nat) (d:m<5):C a m=C' a m:=by
 have key:∀k a,p.size<=a+k->∀m,m<5->C a m=C' a m:=by
  intro k
  induction k with
  |zero=>intro a b m _;rw[h.zero a m b,c.zero a m b]
  |succ k j=>
   intro a l m d;by_cases b:a<p.size
   ·have i:∀a' m,a<a'->m<5->C a' m=C' a' m:=λa' m g e=>j a' oO m e;exact Nat.le_antisymm (h.Kx f c a b i _ m d rfl) (c.Kx f h a b (λa' m g e=>(i a' m g e).symm) _ m d rfl)
   ·rw[h.zero a m oO,c.zero a m oO]
 exact key p.size a oO m d
theorem yg {C:Nat->Nat->Nat} {num at_ m:Nat} {a:aA} {n sz:Nat} {lg:Bool} (hb:a.run≠0):(cW C num at_ m a n sz lg).bK C<=a.bK C:=by
 unfold cW;split
 ·rename_i h
  rcases h with h|h
  ·exact absurd h hb
  ·exact Nat.le_of_lt h
 ·exact Nat.le_refl _
theorem Bt {C:Nat->Nat->Nat} {num at_ m:Nat} {a:aA} {n sz:Nat} {lg:Bool}:(cW C num at_ m a n sz lg).bK C<=aA.bK C ⟨num,-1,n,lg,sz+8* n,at_+n,m⟩:=by
 unfold cW;split
 ·exact Nat.le_refl _
 ·rename_i h;omega
theorem ns {C:Nat->Nat->Nat} {num at_ m:Nat} {a:aA} {n sz:Nat} {lg:Bool} (hn:0<n):(cW C num at_ m a n sz lg).run≠0:=by
 unfold cW;split
 ·show n≠0;omega
 ·rename_i h;exactλe=>h (.inl e)
theorem sK {C:Nat->Nat->Nat} {num at_ m K:Nat}:∀k j,1<=j->j<=k->(dM C num at_ m K k).bK C<=aA.bK C ⟨num,-1,j,false,an m+5+8* j,at_+j,m⟩
 |0,j,a,b=>by omega
 |k+1,j,a,b=>by
  show(cW _ _ _ _ _ _ _ _).bK C<=_;by_cases e:j=1+k
  ·subst e;exact Bt
  ·have c:=sK (C:=C) (num:=num) (at_:=at_) (m:=m) (K:=K) k j a oO;refine Nat.le_trans (yg ?_) c;cases k with
   |zero=>omega
   |succ k=>exact ns oO
theorem bS {C:Nat->Nat->Nat} {num at_ m:Nat}:∀k j,31<=j->j<31+k->(fj C num at_ m k).bK C<=aA.bK C ⟨num,-1,j,true,an m+16+8* j,at_+j,m⟩
 |0,j,a,b=>by omega
 |k+1,j,a,b=>by
  show(cW _ _ _ _ _ _ _ _).bK C<=_;by_cases e:j=31+k
  ·subst e;exact Bt
  ·have c:=bS (C:=C) (num:=num) (at_:=at_) (m:=m) k j a oO;refine Nat.le_trans (yg ?_) c;cases k with
   |zero=>omega
   |succ k=>exact ns oO
theorem qI {C:Nat->Nat->Nat} {num at_ m K:Nat} (a:0<K):∀k,(dM C num at_ m K k).bK C<=(fj C num at_ m K).bK C/\(dM C num at_ m K k).run≠0
 |0=>⟨Nat.le_refl _,by
  obtain⟨K',rfl⟩:∃K',K=K'+1:=⟨K-1,by omega⟩
  exact ns oO⟩
 |k+1=>⟨Nat.le_trans (yg (qI a k).2) (qI a k).1,ns oO⟩
theorem q7 {C:Nat->Nat->Nat} {p:ByteArray} {at_ m n:Nat} {a:aA} (b:a∈dZ C p at_ m n):∀k,n<k->a∈bM C p at_ m k
 |0,h=>by omega
 |k+1,h=>by
  unfold bM;rw[List.mem_append];by_cases e:n=k
  ·subst e;exact .inr b
  ·exact .inl (q7 b k oO)
theorem cj.bin {p:ByteArray} {C:Nat->Nat->Nat} (h:cj p C) (a m:Nat) (b:a<p.size) (n:m<3):C a m<=18+C (a+1) m:=by
 have c:bY m 31=4:=by
  have d:bY 0 31=4:=oK;have e:bY 1 31=4:=oK;have f:bY 2 31=4:=oK;have g:m=0\/m=1\/m=2:=oO;rcases g with rfl|rfl|rfl
  ·exact d
  ·exact e
  ·exact f
 have i:an m=5:=by unfold an;rw[if_neg oO]
 have j:ff C 31 a m (p.size-a)∈dZ C p a m 31:=by
  unfold dZ;rw[c,if_neg oO,if_neg oO,if_neg oO,if_pos rfl];exact List.mem_singleton.2 rfl
 have k:=(h.fix a b).1 m oO _ (q7 j 32 oO);refine Nat.le_trans k ?_;have l:=sK (C:=C) (num:=31) (at_:=a) (m:=m) (K:=min (p.size-a) 2078-30) (min (p.size-a) 31) 1 oO oO;refine Nat.le_trans l ?_;show an m+5+8* 1+C (a+1) m<=_;rw[i];omega
theorem cj.mY {p:ByteArray} {C:Nat->Nat->Nat} (h:cj p C) (a m n:Nat) (b:a<p.size) (c:m<5) (hn:n<32) (d:bY m n=2):C a m<=an m+C a (modeF m n):=by
 have e:(⟨n,-1,0,false,an m,a,modeF m n⟩:aA)∈dZ C p a m n:=by
  unfold dZ;rw[d,if_neg oO,if_pos rfl];exact List.mem_singleton.2 rfl
 exact(h.fix a b).1 m c _ (q7 e 32 hn)
theorem cj.up {p:ByteArray} {C:Nat->Nat->Nat} (h:cj p C) (a:Nat):C a 0<=18* (p.size-a):=by
 have key:∀k a,p.size<=a+k->C a 0<=18* (p.size-a):=by
  intro k
  induction k with
  |zero=>intro a b;rw[h.zero a 0 b];exact Nat.zero_le _
  |succ k c=>
   intro a b;by_cases d:a<p.size
   ·have e:=h.bin a 0 d oO;have f:=c (a+1) oO;omega
   ·rw[h.zero a 0 oO];exact Nat.zero_le _
 exact key p.size a oO
theorem cj.Nh {p:ByteArray} {C:Nat->Nat->Nat} (h:cj p C) (a m:Nat) (k:m<5):C a m<=9+C a 0:=by
 by_cases c:a<p.size
 ·have d:=h.mY a 4 14 c oO oO oK;have e1:modeF 4 14=0:=oK;have e2:modeF 1 30=4:=oK;have e3:modeF 2 29=0:=oK;have e4:modeF 3 31=0:=oK;have e:an 4=4:=rfl;have f:an 1=5:=rfl;have g:an 2=5:=rfl;have i:an 3=5:=rfl;rw[e1,e]at d;have j:m=0\/m=1\/m=2\/m=3\/m=4:=oO;rcases j with rfl|rfl|rfl|rfl|rfl
  ·omega
  ·have b:=h.mY a 1 30 c oO oO oK;rw[e2,f]at b;omega
  ·have b:=h.mY a 2 29 c oO oO oK;rw[e3,g]at b;omega
  ·have b:=h.mY a 3 31 c oO oO oK;rw[e4,i]at b;omega
  ·omega
 ·rw[h.zero a m oO];omega
theorem cj.fin {p:ByteArray} {C:Nat->Nat->Nat} (c:p.size<=4096) (h:cj p C) (a m:Nat) (b:m<5):C a m<1073741824:=by
 have d:=h.Nh a m b;have e:=h.up a;omega
structure Gx (p:ByteArray) (a m:Nat) (b:aA):Prop where
 nm:b.num<32
 s1:-1<=b.sec
 s2:b.sec<32
 rn:a+b.run<=p.size
 lg:0<b.run->b.long=true->31<=b.run
 sr:0<=b.sec->b.run=0
 ln:(cr p a m b).length=b.size
theorem wv:∀m,m<5->∀n,n<32->bY m n=3->an (modeF m n)=5:=of_decide_eq_true oK
def py (p:ByteArray) (num a m:Nat) (b:aA):Prop:=b.run=0\/(b=⟨num,-1,b.run,b.long,(if b.long=true then an m+16 else an m+5)+8* b.run,a+b.run,m⟩/\0<b.run/\a+b.run<=p.size/\(b.long=true->31<=b.run))
theorem yq {C:Nat->Nat->Nat} {p:ByteArray} {num at_ m:Nat} {b:aA} {n:Nat} {lg:Bool} (hb:py p num at_ m b) (hn:0<n) (c:at_+n<=p.size) (hl:lg=true->31<=n):py p num at_ m (cW C num at_ m b n (if lg=true then an m+16 else an m+5) lg):=by
 obtain⟨sz,a⟩:∃sz,sz=(if lg=true then an m+16 else an m+5):=⟨_,rfl⟩;rw[<-a];unfold cW;split
 ·exact .inr ⟨by show(⟨num,-1,n,lg,sz+8* n,at_+n,m⟩:aA)=⟨num,-1,n,lg,(if lg=true then an m+16 else an m+5)+8* n,at_+n,m⟩;rw[<-a],hn,c,hl⟩
 ·exact hb
theorem wi {C:Nat->Nat->Nat} {p:ByteArray} {num at_ m:Nat}:∀k,(at_+30+k<=p.size\/k=0)->py p num at_ m (fj C num at_ m k)
 |0,_=> .inl rfl
 |k+1,h=>yq (lg:=true) (wi k oO) oO oO (λ_=>by omega)
theorem uD {C:Nat->Nat->Nat} {p:ByteArray} {num at_ m K:Nat} (a:at_+30+K<=p.size\/K=0):∀k,at_+k<=p.size->py p num at_ m (dM C num at_ m K k)
 |0,_=>wi K a
 |k+1,h=>yq (lg:=false) (uD a k oO) oO oO (λe=>by cases e)
theorem pW {C:Nat->Nat->Nat} {p:ByteArray} {num a m:Nat} (c:a<p.size):py p num a m (ff C num a m (p.size-a))/\(ff C num a m (p.size-a)).run≠0:=by
 refine⟨uD oO _ oO,?_⟩;unfold ff;obtain⟨k,b⟩:∃k,min (p.size-a) 31=k+1:=⟨min (p.size-a) 31-1,by omega⟩;rw[b];exact ns oO
theorem py.st {p:ByteArray} {num a m:Nat} {b:aA} (h:py p num a m b) (c:b.run≠0) (hn:num<32):Gx p a m b:=by
 rcases h with h|⟨e,d,f,g⟩
 ·exact absurd h c
 ·have k:b.sec=-1:=by rw[e]
  have i:b.num=num:=by rw[e]
  have j:b.size=(if b.long=true then an m+16 else an m+5)+8* b.run:=by rw[e]
  refine⟨by rw[i];exact hn,by omega,by omega,f,λ_=>g,λh=>by omega,?_⟩;rw[j];unfold cr mj;rw[if_neg oO,if_pos d,List.append_nil];simp only[List.length_append,aN,oe];split
  ·simp only[List.length_append,aN];omega
  ·simp only[aN];omega
theorem LJ {C:Nat->Nat->Nat} {p:ByteArray} {a m n:Nat} (d:a<p.size) (e:m<5) (hn:n<32) {c:aA} (b:c∈dZ C p a m n):Gx p a m c:=by
 have plain:∀(at_ md:Nat),Gx p a m ⟨n,-1,0,false,an m,at_,md⟩:=λat_ md=>by
  refine⟨hn,by show(-1:Int)<=-1;omega,by show(-1:Int)<32;omega,by show a+0<=_;omega,λh=>(by cases h),λh=>rfl,?_⟩;show(aH n (an m)++(if(0:Int)<=-1 then aH (-1:Int).toNat 5 else[])++[]).length=an m;rw[if_neg oO];simp[aN]
 unfold dZ at b;split at b
 ·split at b
  ·rw[List.mem_singleton]at b;subst b;exact plain _ _
  ·cases b
 split at b
 ·rw[List.mem_singleton]at b;subst b;exact plain _ _
 split at b
 ·rename_i f
  have g:=wv m e n hn f;have key:∀k,k<=32->c∈optSK p a m n (modeF m n) k->Gx p a m c:=by
   intro k
   induction k with
   |zero=>intro _ h;cases h
   |succ k i=>
    intro j h;unfold optSK at h;rw[List.mem_append]at h;rcases h with h|h
    ·exact i oO h
    ·unfold mr at h;split at h
     ·rw[List.mem_singleton]at h;subst h;refine⟨hn,by show(-1:Int)<=(k:Int);omega,by show(k:Int)<32;omega,by show a+0<=_;omega,λh=>(by cases h),λh=>rfl,?_⟩;show(aH n (an m)++(if(0:Int)<=(k:Int)then aH (k:Int).toNat 5 else[])++[]).length=an m+an (modeF m n);rw[if_pos oO,g];simp[aN]
     ·cases h
  exact key 32 (Nat.le_refl _) b
 split at b
 ·rw[List.mem_singleton]at b;subst b;exact(pW d).1.st (pW d).2 hn
 ·cases b
theorem Eg {C:Nat->Nat->Nat} {p:ByteArray} {a m:Nat} (c:a<p.size) (d:m<5) {b:aA}:∀k,k<=32->b∈bM C p a m k->Gx p a m b:=by
 intro k
 induction k with
 |zero=>intro _ h;cases h
 |succ k e=>
  intro f h;unfold bM at h;rw[List.mem_append]at h;rcases h with h|h
  ·exact e oO h
  ·exact LJ c d oO h
theorem cj.step {p:ByteArray} {C:Nat->Nat->Nat} (i:p.size<=4096) (h:cj p C) (a m:Nat) (g:a<p.size) (e:m<5):∃b,cM C p a m=some b/\b∈bM C p a m 32/\L5 p C a m b:=by
 obtain⟨l,n,o⟩:∃b∈bM C p a m 32,b.bK C=C a m:=by
  rcases(h.fix a g).2 m e with j|j
  ·have:=h.fin i a m e;omega
  ·exact j
 cases d:cM C p a m with
 |none=>
  unfold cM at d;rw[List.find?_eq_none]at d;exact absurd (by rw[o];simp) (d l n)
 |some b=>
  unfold cM at d;have f:=List.mem_of_find?_eq_some d;have r:=List.find?_some d;have q:b.bK C=C a m:=by simpa using r
  have k:=qv g i e 32 f;have c:=Eg g e 32 (Nat.le_refl _) f;exact⟨b,rfl,f,⟨k.1,k.2.1,q.symm,sX 32 f,c.nm,c.s1,c.s2,c.rn,c.lg,c.sr,Nat.le_of_eq c.ln⟩⟩
def pZ (p:ByteArray) (C:Nat->Nat->Nat):List Bool:=fQ p (cM C p) (C 0 0) 0 0
theorem xj (A:Option Addr) (n c:Nat) (l:List UInt8) (w:World) (hb:SR vU 0 w A n c l) (hn:n<=4096):
 Calls Tryz.prog 30 #[.slice A n c] w λe w'=>∃C,cj ⟨l.toArray⟩ C/\RT vB false w (pZ ⟨l.toArray⟩ C,0) e w':=by
 obtain⟨p,j⟩:∃p:ByteArray,p=⟨l.toArray⟩:=⟨_,rfl⟩;have s:n=p.size:=by rw[hb.hn,j];show l.length=l.toArray.size;simp
 have k:=Lib.hid s;have o:=zw A n c l w hb hn;rw[<-j]at o⊢;have J:=Lib.hid o;clear hb s o j;go_enter Tryz.func30,Tryz.ntmps30
 go_wp2_with(first
  |(go_at_call 80;refine J.out.mono ?_;rintro e z ⟨B,D,cap,hb,C,Q,rfl,hq,r,g,i,t⟩;have q:cj p C:=⟨λa b=>(g a (by rw[k.out];exact b)).1,λa m b=>i a m (by rw[k.out];exact b),hq.S.b⟩;have K:=Lib.hid q;have u:=Lib.hid t;have L:=Lib.hid (IL z B D cap hb _ p C (cM C p) hq (r.vJ (Nat.le_refl _) (λa m f _ v d=>(by
   by_cases b:a<n
   ·rw[(g a b).2 m];exact d
   ·exfalso;unfold cM at d;have P:=List.mem_of_find?_eq_some d;have E:0<C a m:=(by have F:=List.find?_some d;have M:f.bK C=C a m:=(by simpa using F);have:=sX 32 P;unfold aA.bK at M;omega);rw[i a m oO]at E
    omega))) (λa m b v=>(by obtain⟨f,G,_,H⟩:=q.step (by rw[<-k.out];exact hn) a m b v;exact⟨f,G,H⟩)));clear hq r g i t q)
  |(go_at_call 81;refine L.out.mono ?_;rintro e S ⟨T,rfl,x,y⟩;have N:=Lib.hid x;have O:=Lib.hid y;clear x y))
 go_ret2
 exact⟨C,K.out,RT.mk rfl N.out (u.out.trans (O.out.mono u.out.size))⟩
def nQ (A d:Option Addr):Prop:=∀c,d=some c->∃a,A=some a/\c.block=a.block
theorem nQ.refl (A:Option Addr):nQ A A:=λa h=>⟨a,h,rfl⟩
theorem nQ.add (A:Option Addr) (m:Nat):nQ A (A.map (λa=>a.add m)):=by
 intro c h;cases A with
 |none=>cases h
 |some a=>injection h with h;subst h;exact⟨a,rfl,aL _ _⟩
theorem FB (rb:Nat) (A:Option Addr) (n c m:Nat) (b:List Bool) (w:World) (h:ak w rb (Eb A n c)) (q:w.frozen? ⟨rb,0,none⟩=false) (k:m<=40) (hn:n<=1048576) (hb:SR vB false w A n c b):
 Calls Tryz.prog 218 #[.pointer (some ⟨rb,0,none⟩),.int .i64 m] w λe w'=>e= .returned (.tuple #[.int .i64 (bn b 0 m).1,.int .i64 (bn b 0 m).2])/\
  ((b.length<m/\w'=w)\/(m<=b.length/\∃i l,w'=w.setCell ⟨rb,0,none⟩ (.slice i (n-m) l)/\SR vB false w i (n-m) l (b.drop m)/\nQ A i)):=by
 obtain⟨r,s⟩:=tC h;have g:=Lib.hid hb;have a:Hid (n=b.length):=hb.hn;clear h;by_cases p:n<m
 ·have d:Hid (bn b 0 m=(0,10)):=by show _=_;unfold bn;rw[if_pos (by rw[<-a.out];omega)]
  have j:Hid (Calls Tryz.prog 67 #[.slice A n c,.int .i64 0,.int .i64 m] w (λe w'=>e= .returned (.tuple #[.int .i64 (bn b 0 m).1,.int .i64 (bn b 0 m).2])/\w'=w)):=yp A n c m b w k hn hb;clear hb;go_enter Tryz.func218,Tryz.ntmps218;go_wp2_with(go_at_call 67;refine j.out.mono ?_;rintro e w' ⟨rfl,f⟩;rw[f,d.out];clear f)
  go_ret2
  rw[d.out];exact⟨rfl,.inl ⟨by rw[<-a.out];exact p,rfl⟩⟩
 ·have d:Hid (bn b 0 m=(((numF b 0 m:Nat):Int),0)):=by show _=_;unfold bn;rw[if_neg (by rw[<-a.out];omega)]
  have j:Hid (Calls Tryz.prog 67 #[.slice A n c,.int .i64 0,.int .i64 m] w (λe w'=>e= .returned (.tuple #[.int .i64 (bn b 0 m).1,.int .i64 (bn b 0 m).2])/\w'=w)):=yp A n c m b w k hn hb;have hc:=hb.hc;clear hb;go_enter Tryz.func218,Tryz.ntmps218;go_wp2_with(go_at_call 67;refine j.out.mono ?_;rintro e w' ⟨rfl,f⟩;rw[f,d.out];clear f)
  all_goals
   go_ret2
   rw[d.out];refine⟨rfl,.inr ⟨by rw[<-a.out];omega,_,_,rfl,?_,?_⟩⟩
  ·exact g.out.drop oO (.inl oO) oO
  ·exact nQ.refl _
  ·rcases Nat.eq_or_lt_of_le (show m<=n by omega)with e|e
   ·exact g.out.drop oO (.inl e.symm) rfl
   ·obtain⟨o,rfl,_⟩:=g.out.rd (by rw[<-a.out];omega);exact g.out.drop oO (.inr ⟨o,rfl,rfl⟩) rfl
  ·exact nQ.add _ _
theorem Er (rb:Nat) (A:Option Addr) (n c m:Nat) (b:List Bool) (w:World) (h:ak w rb (Eb A n c)) (g:w.frozen? ⟨rb,0,none⟩=false) (i:m<=40) (hn:n<=1048576) (hb:SR vB false w A n c b):
 Calls Tryz.prog 182 #[.pointer (some ⟨rb,0,none⟩),.int .i64 m] w λe w'=>e= .returned (.tuple #[.int .i64 (bn b 0 m).1,.int .i64 (bn b 0 m).2])/\
  ((b.length<m/\w'=w)\/(m<=b.length/\∃a d,w'=w.setCell ⟨rb,0,none⟩ (.slice a (n-m) d)/\SR vB false w a (n-m) d (b.drop m)/\nQ A a)):=by
 have k:Hid (Calls Tryz.prog 218 #[.pointer (some ⟨rb,0,none⟩),.int .i64 m] w _):=FB rb A n c m b w h g i hn hb;obtain⟨l,o⟩:=tC h;clear h hb;go_enter Tryz.func182,Tryz.ntmps182;go_wp2_with(go_at_call 218;refine k.out.mono ?_;rintro e w' ⟨rfl,f⟩;have j:=Lib.hid f;clear f)
 go_ret2
 exact⟨rfl,j.out⟩
def Tag (w:World) (b:Nat) (t:TypeId):Prop:=∃a:Array Value,w.heap[b]?=some (.cells a t (0,0))
theorem Tag.ne {w:World} {a b:Nat} {t u:TypeId} (d:Tag w a t) (c:Tag w b u) (g:t≠u):a≠b:=by
 intro e;subst e;obtain⟨c1,d⟩:=d;obtain⟨i,c⟩:=c;rw[d]at c;injection c with c;injection c with _ f _;exact g f
theorem Tag.below {w W:World} {b:Nat} {t:TypeId} (h:Tag w b t) (a:Below w.heap.size w W):Tag W b t:=by
 obtain⟨c,h⟩:=h;exact⟨c,(a.block _ (au h)).trans h⟩
theorem aa.tag {w:World} {b:Nat} {a:Array Value} {t:TypeId} (h:aa w b a t):Tag w b t:=⟨a,h⟩
theorem Tag.fm {w:World} {b:Nat} {t:TypeId} (h:Tag w b t) (a:Addr) (d:b≠a.block) (u:Value):Tag (w.setCell a u) b t:=by
 obtain⟨c,h⟩:=h;exact⟨c,(Below.heap_setCell _ _ _ _ d).trans h⟩
theorem Tag.grown {w W:World} {b:Nat} {t:TypeId} {row:Option Nat} (h:Tag w b t) (hg:w.grownBy W row) (a:some b≠row):Tag W b t:=by
 obtain⟨c,h⟩:=h;exact⟨c,(hg.block _ (au h) a).trans h⟩
theorem ql {w:World} {base:Nat} {e:TypeId} {v:Value} {n q:Nat} {xs:List Value} (h:w.ownsRow base e 1 v n xs) (hq:v.ownBlock=some q):Tag w q e:=by
 rcases h.2 with⟨rfl,_⟩|⟨g,cap,a,rfl,_,hg,_⟩
 ·cases hq
 ·simp only[Value.ownBlock,Option.some.injEq]at hq;subst hq;exact⟨a,hg⟩
theorem SR.fm {α:Type} {f:α->Value} {d:α} {w:World} {A:Option Addr} {n c:Nat} {l:List α} (h:SR f d w A n c l) (a:Addr) (i:∀g,A=some g->g.block≠a.block) (u:Value):SR f d (w.setCell a u) A n c l:=by
 refine⟨h.hn,h.hc,h.hm,λhn=>?_⟩;obtain⟨g,e,k,m⟩:=h.rd hn;have o:=i g e;refine⟨g,e,by simpa using k,λj p=>?_⟩;rw[World.cell?_setCell_other w _ _ _ (λe2=>o (by rw[e2,aL]))];exact m j p
theorem SR.grown {α:Type} {f:α->Value} {d:α} {w W:World} {A:Option Addr} {n c:Nat} {l:List α} {row:Option Nat} (h:SR f d w A n c l) (hg:w.grownBy W row) (i:∀a,A=some a->some a.block≠row):SR f d W A n c l:=by
 refine⟨h.hn,h.hc,h.hm,λhn=>?_⟩;obtain⟨a,e,g,k⟩:=h.rd hn;refine⟨a,e,Nat.lt_of_lt_of_le g hg.size,λj m=>?_⟩;rw[hg.cell_far (a.add j) (by rw[aL];exact g) (by rw[aL];exact i a e)];exact k j m
structure DE (n:Nat) (w wr:World) (db rb:Nat) (b0 b:List Bool) (mode:Nat) (out:List UInt8):Prop where
 B:Below n w wr
 D:∃a d c0 e co,aa wr db a 187/\a.size=484/\a[0]?=some (.slice d b0.length c0)/\a[1]?=some (.pointer (some ⟨rb,0,none⟩))/\(∀i v,eu[i]?=some v->a[2+i]?=some v)/\a[482]?=some (.int .i64 (mode:Int))/\a[483]?=some (.slice e out.length co)/\
  SR vB false w d b0.length c0 b0/\wr.ownsRow n 5 1 (.slice e out.length co) out.length (out.map vU)
 R:∃A c,aa wr rb #[.slice A b.length c,.bool true] 225/\SR vB false wr A b.length c b/\∀f,A=some f->Tag wr f.block 4
 n1:n<=db/\n<=rb
 n2:n=w.heap.size
 md:mode<5
 lb:b.length<=b0.length/\b0.length<=1048576
section
variable {n : Nat} {w wr W : World} {db rb : Nat} {b0 b : List Bool} {mode : Nat} {out : List UInt8}
theorem DE.ge (h:DE n w wr db rb b0 b mode out):n<=wr.heap.size:=by rw[h.n2];exact h.B.size
theorem DE.below (h:DE n w wr db rb b0 b mode out) (a:Below wr.heap.size wr W):DE n w W db rb b0 b mode out:=by
 obtain⟨v,d,c0,f,co,g,i,j,k,l,m,o,p,q⟩:=h.D;obtain⟨A,c,r,s,t⟩:=h.R;exact⟨h.B.trans (a.mono h.ge),⟨v,d,c0,f,co,g.below a,i,j,k,l,m,o,p,ar q a⟩,⟨A,c,r.below a,s.below a,λu e=>(t u e).below a⟩,h.n1,h.n2,h.md,h.lb⟩
theorem DE.ne (h:DE n w wr db rb b0 b mode out):db≠rb:=by
 obtain⟨g,e,c0,f,co,a,_⟩:=h.D;obtain⟨A,c,d,_⟩:=h.R;exact a.tag.ne d.tag oD
theorem lY {base:Nat} {e:TypeId} {v:Value} {k:Nat} {xs:List Value} (h:wr.ownsRow base e 1 v k xs) (a:Addr) {t:TypeId} (i:Tag wr a.block t) (m:t≠e) (u:Value):(wr.setCell a u).ownsRow base e 1 v k xs:=by
 refine⟨h.1,?_⟩;rcases h.2 with c|⟨g,cap,f,j,c,d,l⟩
 ·exact .inl c
 ·refine .inr ⟨g,cap,f,j,c,(Below.heap_setCell _ _ _ _ ?_).trans d,l⟩;exact(Tag.ne i ⟨f,d⟩ m).symm
theorem DE.take (h:DE n w wr db rb b0 b mode out) {m:Nat} {g:Option Addr} {k:Nat} (K:m<=b.length) (hs:SR vB false wr g (b.length-m) k (b.drop m)) {A:Option Addr} {c:Nat} (a:aa wr rb #[.slice A b.length c,.bool true] 225) (G:nQ A g):
 DE n w (wr.setCell ⟨rb,0,none⟩ (.slice g (b.length-m) k)) db rb b0 (b.drop m) mode out:=by
 obtain⟨H,p,c0,q,co,r,s,t,u,v,y,z,B,C⟩:=h.D;obtain⟨D,c1,d,L,E⟩:=h.R;have J:=h.ne;have F:D=A:=by
  unfold aa at d a;rw[d]at a;injection a with a;injection a with a _ _;have:=congrArg (λx:Array Value=>x[0]?) a;simp only[List.getElem?_toArray,List.getElem?_cons_zero,Option.some.injEq,Value.slice.injEq]at this;exact this.1
 have l:∀j,g=some j->Tag wr j.block 4:=λj e=>by
  obtain⟨f,e1,e2⟩:=G j e;rw[e2];exact E f (by rw[F];exact e1)
 have o:(b.drop m).length=b.length-m:=List.length_drop;refine⟨h.B.setCell h.n1.2 _,⟨H,p,c0,q,co,(Below.heap_setCell _ _ _ _ J).trans r,s,t,u,v,y,z,B,lY C _ d.tag oD _⟩,⟨g,k,?_,?_,λf e=>?_⟩,h.n1,h.n2,h.md,by rw[o];have:=h.lb;omega⟩
 ·rw[o];exact d.fm (i:=0) _
 ·rw[o];exact hs.fm _ (λf e=>(l f e).ne d.tag oD) _
 ·exact(l f e).fm _ ((l f e).ne d.tag oD) _
theorem DE.M0 (h:DE n w wr db rb b0 b mode out) (a:Nat) (k:a<5):DE n w (wr.setCell ⟨db,482,none⟩ (.int .i64 (a:Int))) db rb b0 b a out:=by
 obtain⟨z,l,c0,m,co,d,o,p,q,r,C,s,t,u⟩:=h.D;obtain⟨A,c,x,y,g⟩:=h.R;have B:=h.ne
 refine⟨h.B.setCell h.n1.1 _,⟨z.setIfInBounds 482 (.int .i64 (a:Int)),l,c0,m,co,d.fm _,by simp[o],by rw[Array.getElem?_setIfInBounds_ne oO];exact p,by rw[Array.getElem?_setIfInBounds_ne oO];exact q,λi v j=>?_,by rw[Array.getElem?_setIfInBounds_self_of_lt oO],by rw[Array.getElem?_setIfInBounds_ne oO];exact s,t,lY u _ d.tag oD _⟩,
  ⟨A,c,(Below.heap_setCell _ _ _ _ (Ne.symm B)).trans x,y.fm _ (λf e=>(g f e).ne d.tag oD) _,λf e=>(g f e).fm _ ((g f e).ne d.tag oD) _⟩,h.n1,h.n2,k,h.lb⟩
 have D:i<480:=by rw[<-nf];exact(Array.getElem?_eq_some_iff.1 j).1
 rw[Array.getElem?_setIfInBounds_ne oO];exact r i v j
theorem DE.grow (h:DE n w wr db rb b0 b mode out) {d:Option Addr} {co:Nat} (r:wr.ownsRow n 5 1 (.slice d out.length co) out.length (out.map vU)) {W:World} (hg:wr.grownBy W (Value.slice d out.length co).ownBlock) {j:Option Addr} {k:Nat} {f:List UInt8}
 (J:W.ownsRow n 5 1 (.slice j f.length k) f.length (f.map vU)):aa W db (Classical.choose h.D) 187/\DE n w (W.setCell ⟨db,483,none⟩ (.slice j f.length k)) db rb b0 b mode f:=by
 have N:=Classical.choose_spec h.D;generalize Classical.choose h.D=u at*;obtain⟨y,c0,S,T,l,z,B,C,D,E,O,F,P⟩:=N;obtain⟨A,c,m,G,s⟩:=h.R;have K:=h.ne;have o:∀q,(Value.slice d out.length co).ownBlock=some q->Tag wr q 5:=λq hq=>ql r hq;have L:some db≠(Value.slice d out.length co).ownBlock:=λe=>(o db e.symm).ne l.tag oD rfl;have M:some rb≠(Value.slice d out.length co).ownBlock:=λe=>(o rb e.symm).ne m.tag oD rfl;have x:∀a,A=some a->some a.block≠(Value.slice d out.length co).ownBlock:=λa e e2=>(o a.block e2.symm).ne (s a e) oD rfl;have g:aa W db u 187:=(hg.block _ (au l) L).trans l;have H:aa W rb #[.slice A b.length c,.bool true] 225:=(hg.block _ (au m) M).trans m;have p:∀a,A=some a->Tag W a.block 4:=λa e=>(s a e).grown hg (x a e)
 refine⟨g,(h.B.grown hg h.ge (λq hq=>(r.lt q hq).1)).setCell h.n1.1 _,⟨u.setIfInBounds 483 (.slice j f.length k),y,c0,j,k,g.fm _,by simp[z],by rw[Array.getElem?_setIfInBounds_ne oO];exact B,by rw[Array.getElem?_setIfInBounds_ne oO];exact C,λi v t=>?_,by rw[Array.getElem?_setIfInBounds_ne oO];exact E,by rw[Array.getElem?_setIfInBounds_self_of_lt oO],F,lY J _ g.tag oD _⟩,
  ⟨A,c,(Below.heap_setCell _ _ _ _ (Ne.symm K)).trans H,(G.grown hg x).fm _ (λa e=>(p a e).ne g.tag oD) _,λa e=>(p a e).fm _ ((p a e).ne g.tag oD) _⟩,h.n1,h.n2,h.md,h.lb⟩
 have Q:i<480:=by rw[<-nf];exact(Array.getElem?_eq_some_iff.1 t).1
 rw[Array.getElem?_setIfInBounds_ne oO];exact D i v t
end
theorem rB:Tryz.prog.underlying 26=some (.slice (Tryz.prog.elem 26)):=oK
theorem wV (w:World):(sizeOf (Tryz.prog.elem 26)).run Tryz.prog w= .ok 1 w:=oK
theorem uL {a:Act} {d:Oper} {W:World} {x i:Operand} (e:d.op= .slice 26 x (some i) none none) {A:Option Addr} {n c:Nat} {l:List Bool} (f:a.eval x= .slice A n c) {I:Int} (g:a.eval i= .int .i64 I) (k:Nat) (j:I=(k:Int)) (p:k<=n):
 (execOp a.eval d).run Tryz.prog W= .ok (.value (.slice (if c=k then A else A.map (λm=>m.add k)) (n-k) (c-k))) W:=by
 subst j;have b:=run_slice_l (P:=Tryz.prog) W 26 A n c rB .i64 (k:Int) oO oO;rw[wV]at b;simp only[Result.andThen_ok,sliced,Int.toNat_natCast,Nat.mul_one]at b;have o:=run_sliceAt_slice (P:=Tryz.prog) W 26 (.slice A n c) (some (.int .i64 (k:Int))) none none rB;unfold execOp;simp only[e,f,g,Option.map_some,Option.map_none,Sem.run_bind,Sem.run_pure,Result.andThen_ok,o,b]
theorem SR.from {w:World} {A:Option Addr} {n c:Nat} {l:List Bool} (h:SR vB false w A n c l) (k:Nat) (a:k<=n):SR vB false w (if c=k then A else A.map (λb=>b.add k)) (n-k) (c-k) (l.drop k):=by
 have hc:=h.hc;rcases Nat.eq_or_lt_of_le a with e|e
 ·exact h.drop a (.inl e.symm) rfl
 ·obtain⟨b,e1,_⟩:=h.rd (by rw[<-h.hn];omega);rw[if_neg oO];exact h.drop a (.inr ⟨b,e1,by rw[e1];rfl⟩) rfl
def ic (b:List Bool):Bool:=decide (b.length<12)&&b.all id
theorem Eu {b:List Bool} {k:Nat} (a:k<b.length) (h:b.getD k false=false):ic b=false:=by
 unfold ic;rw[all_false (d:=false) a h,Bool.and_false]
theorem G6 {b:List Bool} (hl:b.length<12) (h:∀j,j<b.length->b.getD j false=true):ic b=true:=by
 unfold ic;rw[decide_eq_true hl,all_true (d:=false) h];rfl
theorem Hg (n:Nat) (w wr:World) (db q:Nat) (b0 b:List Bool) (ad:Nat) (out:List UInt8) (h:DE n w wr db q b0 b ad out) (J:b0.drop (b0.length-b.length)=b):
 Calls Tryz.prog 135 #[.pointer (some ⟨db,0,none⟩)] wr λe w'=>e= .returned (.bool (ic b))/\Below wr.heap.size wr w':=by
 obtain⟨a3,f,c0,ap,co,g,P,E,F,Q,S,T,G,r⟩:=h.D;obtain⟨A,c,H,U,V⟩:=h.R;have K:=h.lb.1;have Y:=h.lb.2;have av:wr.cell? ⟨db,1,none⟩=some (.pointer (some ⟨q,0,none⟩)):=g.cell 1 _ F;have D:Hid (Calls Tryz.prog 181 #[.pointer (some ⟨q,0,none⟩)] wr λe w'=>e= .returned (.int .i64 ((b.length:Nat):Int))/\w'=wr):=Iy q A b.length c wr H.cells;obtain⟨lb,u⟩:∃lb,lb=b.length:=⟨_,rfl⟩;obtain⟨a,m⟩:∃a,a=b0.length:=⟨_,rfl⟩;have i:=Lib.hid u;have a4:=Lib.hid m;have L:Hid (b0.drop (a-lb)=b):=by show _=_;rw[m,u];exact J
 have d:Hid (∀W,af wr W->W.cell? ⟨db,0,none⟩=some (.slice f a c0)):=λW X=>by rw[m];exact(g.below X).cell 0 _ E
 have z:Hid (SR vB false wr f a c0 b0):=by
  show SR _ _ _ _ _ _ _;rw[m];have hB:=h.B;rw[h.n2]at hB;exact G.below hB
 rw[<-u]at D K;rw[<-m]at K Y;clear h g P E F Q S T G r H U V u m J;by_cases B:lb<12
 ·have a5:IntKind.i64.wrap ((a:Int)-(lb:Int))=((a-lb:Nat):Int):=by rw[aG _ oO oO];omega
  go_enter Tryz.func135,Tryz.ntmps135;go_wp2_with(go_at_call 181;refine D.out.mono ?_;rintro e w' ⟨rfl,o⟩;rw[o];clear o)
  refine yO (af wr) [1,2,3,4,5,6,7,8,9,10,11,14,0,12,0,13] (aj (Below.refl _ _)) ?_;refine zO d.out ?_;refine zO d.out ?_;refine zO d.out ?_;refine zO d.out ?_;refine zO d.out ?_;refine zO d.out ?_;refine zO d.out ?_;refine zO d.out ?_;refine zO d.out ?_;refine zO d.out ?_;refine zO d.out ?_;refine zO d.out ?_;refine' zQ rfl (uL (l:=b0) rfl rfl rfl (a-lb) rfl oO) (aj (Below.refl _ _)) ?_;have Z:Hid (SR vB false wr.drew (if c0=a-lb then f else f.map (λs=>s.add (a-lb))) lb (c0-(a-lb)) b):=by
   have r:=(z.out.from (a-lb) oO).below (aj (Below.refl _ _));rw[L.out,show a-(a-lb)=lb from by omega]at r;exact r
  rw[show a-(a-lb)=lb from by omega];generalize(if c0=a-lb then f else f.map (λs=>s.add (a-lb)))=a0 at*;generalize c0-(a-lb)=c1 at*;have M:Hid (af wr wr.drew):=aj (Below.refl _ _);clear d z;generalize wr.drew=a1 at*;refine zU ?_;refine ag ?_;go_wp2;go_loop [26] (λv=>∃k:Nat,k<=lb/\v= .int .i64 k/\Hid (∀j,j<k->b.getD j false=true)) (λv=>lb-(intOf v).toNat)
  case atStart=>exact⟨0,Nat.zero_le _,rfl,λj x=>by omega⟩
  case round=>
   obtain⟨k,a2,rfl,t⟩:=hrel;by_cases N:k<lb
   ·obtain⟨s,rfl,_,O⟩:=Z.out.rd (by rw[<-i.out];omega);have a6:=O k (by rw[<-i.out];exact N);have p:Hid (b.getD k false=false->ic b=false):=Eu (by rw[<-i.out];exact N);have C:Hid (b.getD k false=true->∀j,j<k+1->b.getD j false=true):=by
     show _->_;intro h j x;rcases Nat.lt_or_ge j k with g|g
     ·exact t.out j g
     ·obtain rfl:j=k:=oO;exact h
    clear O t;generalize b.getD k false=y at*;cases y with
    |true=>
     have al:=Lib.hid (C.out rfl);clear C p;go_wp2;exact⟨⟨k+1,by omega,by go_num,al.out⟩,by simp[intOf];omega⟩
    |false=>
     have am:=Lib.hid (p.out rfl);clear C p;go_wp2;go_ret;exact⟨by rw[am.out];rfl,M.out⟩
   ·have ab:k=lb:=oO;have ac:Hid (ic b=true):=by
     refine G6 (by rw[<-i.out];exact B) (λj x=>t.out j ?_);rw[ab,i.out];exact x
    clear t;go_wp2;go_ret;exact⟨by rw[ac.out];rfl,M.out⟩
 ·have p:Hid (ic b=false):=by
   show _=_;unfold ic;rw[decide_eq_false (by rw[<-i.out];exact B)];rfl
  have a7:12<=lb:=oO;clear B d z L;go_enter Tryz.func135,Tryz.ntmps135;go_wp2_with(go_at_call 181;refine D.out.mono ?_;rintro e w' ⟨rfl,o⟩;rw[o];clear o)
  go_ret;exact⟨by rw[p.out];rfl,Below.refl _ _⟩
end
end Go.Proofs.YtmnlkganmgcpbaaGreatDoor
