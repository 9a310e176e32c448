import Derived.Test.YtmnlkganmgcpbaaGreatDoorQk5
import Derived.Lib.AppendStr
set_option maxRecDepth 100000
set_option maxHeartbeats 4000000
set_option linter.unusedVariables false
set_option linter.unusedSectionVars false
set_option linter.unusedSimpArgs false
namespace Go.Proofs.YtmnlkganmgcpbaaGreatDoor
section
open Go.RowKit Go.WideMaps Go.Maps
def notBits:Obj->Bool
 |.cells _ a _=>!(a==4)&&!(a==26)
 |_=>true
def iY (w w':World):Prop:=∀(k:Nat) (a:Obj),w.heap[k]?=some a->notBits a=true->w'.heap[k]?=some a
theorem iY.trans {a b c:World} (h:iY a b) (f:iY b c):iY a c:=λk d g e=>f k d (h k d g e) e
theorem iY.below {w W:World} (h:Below w.heap.size w W):iY w W:=λk b a _=>(h.block k (ar a)).trans a
theorem aa.dF {w w':World} {g:Nat} {b:Array Value} {a:TypeId} (h:aa w g b a) (c:iY w w') (d:notBits (.cells b a (0,0))=true):aa w' g b a:=c g _ h d
theorem aa.eT {w:World} {g i:Nat} {b:Array Value} {a:TypeId} (h:aa w g b a) (u:Value):aa (w.setCell ⟨g,i,none⟩ u) g (b.setIfInBounds i u) a:=heap_setCell_same w g i b a u h
structure BO (n:Nat) (w wr:World) (b:Nat) (a:List Bool):Prop where
 B:Below n w wr
 X:∃A c,aa wr b #[.slice A a.length c] 26/\wr.ownsRow n 4 1 (.slice A a.length c) a.length (a.map vB)
 n1:n<=b
 n2:n<=wr.heap.size
theorem BO.below {n:Nat} {w wr W:World} {b:Nat} {d:List Bool} (h:BO n w wr b d) (a:Below wr.heap.size wr W):BO n w W b d:=by
 obtain⟨A,c,e,f⟩:=h.X;exact⟨h.B.trans (a.mono h.n2),⟨A,c,e.below a,au f a⟩,h.n1,Nat.le_trans h.n2 a.size⟩
theorem Hh {n:Nat} {w:World} {a q:Nat} {u:Value} {v:Value} {k:Nat} {xs:List Value} (b:aa w a #[u] 26) (c:w.ownsRow n 4 1 v k xs) (hq:v.ownBlock=some q):q≠a:=by
 rcases c.2 with⟨rfl,_⟩|⟨g,cap,d,rfl,_,hg,_⟩
 ·cases hq
 ·simp only[Value.ownBlock,Option.some.injEq]at hq;subst hq;intro e;subst e;unfold aa at b;rw[b]at hg;injection hg with hg;injection hg with _ e _;exact absurd e oD
theorem iY.grown {n:Nat} {w W:World} {v:Value} {k:Nat} {xs:List Value} (h:w.ownsRow n 4 1 v k xs) (hg:w.grownBy W v.ownBlock):iY w W:=by
 intro q c a hn;refine(hg.block q (ar a) ?_).trans a;intro e;rcases h.2 with⟨rfl,_⟩|⟨g,cap,d,rfl,_,b,_⟩
 ·cases e
 ·simp only[Value.ownBlock,Option.some.injEq]at e;subst e;rw[b]at a;injection a with a;subst a;exact absurd hn (by simp[notBits])
theorem iY.eT {w:World} {g i:Nat} {b:Array Value} (h:aa w g b 26) (u:Value):iY w (w.setCell ⟨g,i,none⟩ u):=by
 intro q c a hn;refine(Below.heap_setCell _ _ _ _ ?_).trans a;intro e;subst e;unfold aa at h;rw[h]at a;injection a with a;subst a;exact absurd hn (by simp[notBits])
theorem Ec (n:Nat) (w0 w:World) (a:Nat) (b:List Bool) (v k:Nat) (h:BO n w0 w a b) (N:v<=1000000000000) (O:k<=62) (hl:b.length<=4000000000):
 Calls Tryz.prog 131 #[.int .i64 (v:Int),.int .i64 (k:Int),.pointer (some ⟨a,0,none⟩)] w λe w'=>e= .returned (.tuple #[])/\BO n w0 w' a (b++aH v k)/\iY w w':=by
 obtain⟨P,Q,Z,ab,ac⟩:=info_parts gZ;obtain⟨A,c,D,E⟩:=h.X;have S:=Lib.hid D;have T:=Lib.hid E;have U:=Lib.hid h.B;have j:Hid (n<=a/\n<=w.heap.size):=⟨h.n1,h.n2⟩;have H:=Lib.hid (aL v k);clear h D E;go_enter Tryz.func131,Tryz.ntmps131
 go_wp2_with(first
  |(go_at_call 59;refine(Dm v k _ N O).mono ?_;rintro e F ⟨v4,rfl,J,s⟩;obtain⟨V,n4,W,rfl,K⟩:=J.parts;have m:=Lib.hid s;have o:=Lib.hid K;have t:=Lib.hid (S.out.below s);have u:=Lib.hid (au T.out s);have ap:F.cell? ⟨a,0,none⟩=some (.slice A b.length c):=t.out.cell 0 _ rfl;clear J s K)
  |(at_builtin;refine aV (f:=vB) (d:=false) wh rfl _ _ _ rfl n 4 P _ 1 Tryz.underlying26 Q Z ab ac rfl _ b.length b rfl u.out V n4 W (aH v k) rfl o.out.hn o.out.rd (by have:=o.out.hn;have:=H.out;unfold maxLen;omega) (by have:=o.out.hn;have:=H.out;omega) (Nat.le_trans j.out.2 m.out.size) ?_;intro av l C hg;obtain⟨x,y,rfl⟩:=cU C;have B:=Lib.hid hg;have L:=Lib.hid C;have p:Hid (aa l a #[.slice A b.length c] 26):=(hg.block a (ar t.out) (λe=>Hh t.out u.out e.symm rfl)).trans t.out;have a0:l.cell? ⟨a,0,none⟩=some (.slice A b.length c):=p.out.cell 0 _ rfl;have a1:l.frozen? ⟨a,0,none⟩=false:=frozen_of_row _ _ _ _ _ p.out;clear C hg))
 refine bodyPost_end (results_none rfl _ _ _) rfl ?_;have M:=o.out.hn;refine⟨rfl,⟨?_,⟨x,y,?_,?_⟩,j.out.1,?_⟩,?_⟩
 ·have ad:Below n w0 F:=U.out.trans (m.out.mono j.out.2);have al:Below n w0 l:=ad.grown B.out (Nat.le_trans j.out.2 m.out.size) (λq hq=>(u.out.lt q hq).1);exact al.setCell (by exact j.out.1) _
 ·have r:=p.out.eT (i:=0) (.slice x (b.length+n4) y);rw[List.length_append,<-M];exact r
 ·have r:=L.out;rw[List.length_append,<-M];refine⟨r.1,?_⟩;rcases r.2 with z|⟨g,cap,am,G,z,X,Y⟩
  ·exact .inl z
  ·refine .inr ⟨g,cap,am,G,z,(Below.heap_setCell _ _ _ _ ?_).trans X,Y⟩;exact Hh p.out L.out (by rw[G];rfl)
 ·have e1:(l.setCell ⟨a,0,none⟩ (.slice x (b.length+n4) y)).heap.size=l.heap.size:=by simp
  rw[e1];exact Nat.le_trans (Nat.le_trans j.out.2 m.out.size) B.out.size
 ·exact(iY.below m.out).trans ((iY.grown u.out B.out).trans (iY.eT p.out _))
def byF (p:ByteArray) (a:Nat):Nat->List Bool
 |0=>[]
 |k+1=>byF p a k++aH (p.data.toList.getD (a+k) 0).toNat 8
def lT (p:ByteArray) (a:Nat) (b:az):List Bool:=if 0<b.run then(if b.long=true then aH 0 5++aH (b.run-31) 11 else aH b.run 5)++byF p a b.run else[]
def cf (p:ByteArray) (a m:Nat) (b:az):List Bool:=aH b.num (an m)++(if 0<=b.sec then aH b.sec.toNat 5 else[])++lT p a b
def fZ (p:ByteArray) (c:Nat->Nat->Option az):Nat->Nat->Nat->List Bool
 |0,_,_=>[]
 |f+1,a,m=>if a<p.size then(match c a m with|some b=>cf p a m b++fZ p c f b.at_ b.mode|none=>[])else[]
structure MX (p:ByteArray) (C:Nat->Nat->Nat) (a m:Nat) (b:az):Prop where
 le:b.at_<=p.size
 md:b.mode<5
 eq:C a m=b.bI C
 ps:0<b.size
 nm:b.num<32
 s1:-1<=b.sec
 s2:b.sec<32
 rn:a+b.run<=p.size
 lg:0<b.run->b.long=true->31<=b.run
 sr:0<=b.sec->b.run=0
 ln:(cf p a m b).length<=b.size
theorem ow (n:Nat) (w0 w:World) (a:Nat) (b:List Bool) (v k:Nat) (V K:Int) (c:V=(v:Int)) (d:K=(k:Int)) (h:BO n w0 w a b) (f:v<=1000000000000) (g:k<=62) (hl:b.length<=4000000000):
 Calls Tryz.prog 131 #[.int .i64 V,.int .i64 K,.pointer (some ⟨a,0,none⟩)] w λe w'=>e= .returned (.tuple #[])/\BO n w0 w' a (b++aH v k)/\iY w w':=by
 subst c d;exact Ec n w0 w a b v k h f g hl
theorem vd {a:Act} {c:Oper} {W:World} {x i:Operand} (f:c.op= .index 9 x i) {p:ByteArray} (g:a.eval x= .string p) {I:Int} (j:a.eval i= .int .i64 I) (k:Nat) (l:I=(k:Int)) (d:k<p.size):
 (execOp a.eval c).run Tryz.prog W= .ok (.value (.int .u8 ((p.data.toList.getD k 0).toNat:Int))) W:=by
 subst l;have b:=run_index_string (P:=Tryz.prog) W 9 p .i64 (k:Int) Tryz.underlying9;rw[dif_pos oO]at b
 have e:p[(k:Int).toNat]'(by simpa using d)=p.data.toList.getD k 0:=by
  have hl:k<p.data.toList.length:=by simpa using d
  rw[List.getD,List.getElem?_eq_getElem hl];rfl
 rw[e]at b;unfold execOp;simp only[f,g,j,b,Sem.run_bind,Sem.run_pure,Result.andThen_ok]
theorem oq (p:ByteArray) (a:Nat):∀k,(byF p a k).length=8* k
 |0=>rfl
 |k+1=>by unfold byF;rw[List.length_append,oq p a k,aL];omega
theorem CA {a:Act} {b:Oper} {W:World} {hb l:Nat} {c:Nat->Nat->Option az} (h:cO W hb l c) {m x:Operand} (d:b.op= .lookup 173 m x false) (e:a.eval m= .map (some hb)) (at_ i:Nat) (f:a.eval x= .agg #[.int .i64 (at_:Int),.int .i64 (i:Int)])
 (g:at_<=4096) (j:i<5) (y:az) (k:c at_ i=some y):(execOp a.eval b).run Tryz.prog W= .ok (.value y.val) W:=by
 have n:=h.lookup at_ i y g j k;unfold execOp;simp only[d,e,f,n,Sem.run_bind,Sem.run_pure,Result.andThen_ok]
theorem ep {e:Array Oper} {S:World->Prop} {K:Act->World->Prop} {r:List (Bool×Nat×Oper)} {k:Nat} {d:Oper} {a:Act} {W:World} (b:TypeId) (m:Region.wanted d (yielded e a.tmps)=true) (g:d.op= .alloc b) (c:Array Value) (f:(Tryz.prog.info? b).map (·.zero)=some (some (.agg c)))
 (j:S (W.alloc (.cells c b))) (l:bn Tryz.prog e S K r (a.put d.dst (.pointer (some ⟨W.heap.size,0,none⟩))) (W.alloc (.cells c b))):bn Tryz.prog e S K ((true,k,d)::r) a W:=by
 cases hq:Tryz.prog.info? b with
 |none=>simp[hq]at f
 |some i=>
  have n:i.zero=some (.agg c):=by simpa[hq]using f
  have o:(Instr.alloc b true (.tuple #[])).run Tryz.prog W= .ok (.pointer (some ⟨W.heap.size,0,none⟩)) (W.alloc (.cells c b)):=by
   simp[Instr.alloc,zeroValue,typeInfo,hq,n,newVar,newRow,Value.cells]
  refine fD m ?_ j l;unfold execOp;simp only[g,Sem.run_bind,Sem.run_pure,Result.andThen_ok,o]
theorem vt {i:Array Oper} {S:World->Prop} {K:Act->World->Prop} {r:List (Bool×Nat×Oper)} {k:Nat} {f:Oper} {a:Act} {W:World} (g:TypeId) (u:Region.wanted f (yielded i a.tmps)=true) (p x:Operand) (l:f.op= .store g p x) (c:TypeId) (d:Array Value) (b:List Value)
 (m:a.eval p= .pointer (some ⟨W.heap.size,0,none⟩)) (n:a.eval x= .agg b.toArray) (o:(Tryz.prog.info? g).map (·.size)=some b.length) (w:b.length=d.size) (q:∀v∈b,v.oneCell'=true)
 (s:S (W.alloc (.cells b.toArray c))) (t:bn Tryz.prog i S K r (a.put f.dst undef) (W.alloc (.cells b.toArray c))):bn Tryz.prog i S K ((true,k,f)::r) a (W.alloc (.cells d c)):=by
 have j:=kq (P:=Tryz.prog) (W.alloc (.cells d c)) c g W.heap.size 0 d b (heap_alloc_new _ _) o oO q;have e:(splice d.toList 0 b).toArray=b.toArray:=by
  unfold splice;rw[List.take_zero,List.nil_append,List.drop_eq_nil_of_le (by simp[w]),List.append_nil]
 rw[e,World.setRow_alloc_new]at j;refine .inl ⟨u,?_⟩;unfold execOp;simp only[l,m,n,Instr.storeAt,Instr.sureAddr,Sem.run_bind,Sem.run_pure,Result.andThen_ok,j];exact⟨s,t⟩
theorem BO.setRow {n:Nat} {w wr:World} {f b:Nat} {i:List Bool} {p:Array Value} (h:BO n w wr f i) (hn:n<=b) (a:aa wr b p 179) (k:Array Value):BO n w (wr.setRow b k) f i:=by
 obtain⟨A,c,d,j⟩:=h.X;refine⟨below_setRow h.B hn _,⟨A,c,d.other _ ?_,j.1,?_⟩,h.n1,by rw[size_setRow];exact h.n2⟩
 ·intro e;subst e;unfold aa at d a;rw[d]at a;injection a with a;injection a with _ e _;exact absurd e oD
 ·rcases j.2 with l|⟨g,cap,q,m,o,k3,k4⟩
  ·exact .inl l
  ·refine .inr ⟨g,cap,q,m,o,(setRow_other _ _ _ _ ?_).trans k3,k4⟩;intro e;subst e;unfold aa at a;rw[k3]at a;injection a with a;injection a with _ e _;exact absurd e oD
theorem pG {W:World} {b:Nat} {d:az} (h:ak W b d.aE):∀j v,[Value.int .i64 (d.at_:Int),.int .i64 (d.mode:Int)][j]?=some v->W.cell? ((⟨b,5,none⟩:Addr).add j)=some v:=by
 intro j v a;have c:=tc h;rw[add_plain]
 match j,a with
 |0,a=>simp only[List.getElem?_cons_zero,Option.some.injEq]at a;rw[<-a];exact c.2.2.2.2.2.1
 |1,a=>simp only[List.getElem?_cons_succ,List.getElem?_cons_zero,Option.some.injEq]at a;rw[<-a];exact c.2.2.2.2.2.2
 |j+2,a=>simp at a
def EF (W:World) (c:Nat) (v:Value):Nat:=match v with
 |.pointer (some b)=>(match W.cell? ⟨b.block,0,none⟩,W.cell? ⟨b.block,1,none⟩with|some (.int _ a),some (.int _ m)=>lQ W c a.toNat m.toNat|_,_=>0)
 |_=>0
theorem GR {W:World} {e c cap hb b a m:Nat} {p:ByteArray} {C:Nat->Nat->Nat} (h:SW W e c cap hb p C) (d:aa W b #[.int .i64 (a:Int),.int .i64 (m:Int)] 179) (f:a<=p.size) (g:m<5):EF W c (.pointer (some ⟨b,0,none⟩))=C a m:=by
 have i:W.cell? ⟨b,0,none⟩=some (.int .i64 (a:Int)):=d.cell 0 _ rfl;have j:W.cell? ⟨b,1,none⟩=some (.int .i64 (m:Int)):=d.cell 1 _ rfl;unfold EF;simp only[i,j,Int.toNat_natCast];unfold lQ;rw[h.cz a m f g];simp
theorem JT (w:World) (J ap cap hb ca:Nat) (p:ByteArray) (C:Nat->Nat->Nat) (A:Nat->Nat->Option az) (O:SQ w J ap cap hb p C) (cq:cO w hb ca A)
 (c3:∀a m,a<p.size->m<5->∃b,A a m=some b/\MX p C a m b):
 Calls Tryz.prog 81 #[.pointer (some ⟨J,0,none⟩)] w λe w'=>∃v,e= .returned v/\SG vB false w' v (fZ p A (C 0 0) 0 0)/\Below w.heap.size w w':=by
 obtain⟨dv,dx,d1,d2,d3⟩:=info_parts gZ;have es:=O.S.hp;have P:Hid (∀W,Below w.heap.size w W->SQ W J ap cap hb p C/\cO W hb ca A):=λW n=>⟨O.below n,cq.below n⟩;have d4:=Lib.hid c3;have dy:=O.S.cc;have b4:=O.S.cz 0 0 oO oO;have bv:Hid (C 0 0<=1073741824):=O.S.b 0 0;have fe:=O.S.hc;simp only[Nat.zero_mul,Nat.zero_add]at b4;obtain⟨c0,cb⟩:∃c0,c0=C 0 0:=⟨_,rfl⟩;rw[<-cb]at b4 bv⊢;have c4:=Lib.hid cb;clear O cq c3 cb;go_enter Tryz.func81,Tryz.ntmps81
 go_wp2_with(first
  |(at_make;refine wpList_make_own _ rfl _ _ _ rfl w.heap.size 4 dv _ 1 Tryz.underlying26 dx d1 d2 .i64 .i64 _ c0 rfl rfl rfl (by have:=bv.out;rw[d3];omega) (by have:=bv.out;unfold maxLen;omega) (Nat.le_refl _) ?_;intro E de hg;have M:=Lib.hid de;have av:Hid (Below w.heap.size w E):=(Below.refl _ _).grown hg (Nat.le_refl _) (λq hq=>by cases hq);clear de hg)
  |((with_reducible show wpList _ _ _ (⟨_,Op.alloc 179,_,_,_,_⟩::_) _ _);refine aM rfl 179 rfl _ j3 ?_)
  |((with_reducible show wpList _ _ _ (⟨_,Op.store 179 _ _,_,_,_,_⟩::_) _ _);refine aR rfl 179 _ _ rfl 179 _ [_,_] rfl rfl dD rfl (fW _ _) ?_))
 simp only[yQ,yU,yX,yY];have dk:Hid (BO w.heap.size w ((E.alloc (.cells #[.slice (some ⟨w.heap.size,0,none⟩) 0 c0] 26)).alloc (.cells #[.int .i64 0,.int .i64 0] 179)) E.heap.size []):=by
  refine BO.below (wr:=E.alloc (.cells #[.slice (some ⟨w.heap.size,0,none⟩) 0 c0] 26)) ⟨av.out.alloc av.out.size _,⟨_,c0,aa.new _ _ _ _ rfl,M.out.alloc _⟩,av.out.size,?_⟩ (ax _ _);have:=av.out.size;simp;omega
 have dl:Hid (aa ((E.alloc (.cells #[.slice (some ⟨w.heap.size,0,none⟩) 0 c0] 26)).alloc (.cells #[.int .i64 0,.int .i64 0] 179)) (E.alloc (.cells #[.slice (some ⟨w.heap.size,0,none⟩) 0 c0] 26)).heap.size #[.int .i64 0,.int .i64 0] 179):=aa.new _ _ _ _ rfl;have dn:Hid (w.heap.size<=(E.alloc (.cells #[.slice (some ⟨w.heap.size,0,none⟩) 0 c0] 26)).heap.size):=by have:=av.out.size;show _<=_;simp;omega
 clear M av dy b4;generalize(E.alloc (.cells #[.slice (some ⟨w.heap.size,0,none⟩) 0 c0] 26)).alloc (.cells #[.int .i64 0,.int .i64 0] 179)=et at*;generalize(E.alloc (.cells #[.slice (some ⟨w.heap.size,0,none⟩) 0 c0] 26)).heap.size=d5 at*;generalize E.heap.size=k at*
 trace_state
 go_loopw [5] (λb5 wr=>∃(c a m f:Nat) (g:List Bool),b5= .pointer (some ⟨c,0,none⟩)/\a<=p.size/\m<5/\w.heap.size<=c/\Hid (aa wr c #[.int .i64 (a:Int),.int .i64 (m:Int)] 179)/\Hid (BO w.heap.size w wr k g)/\Hid (g++fZ p A f a m=fZ p A c0 0 0)/\Hid (C a m<=f)/\Hid (g.length+C a m<=c0)) (λb5 wr=>EF wr ap b5)
 case atStart=>exact⟨d5,0,0,c0,[],rfl,Nat.zero_le _,by omega,dn.out,dl.out,dk.out,rfl,by show _<=_;rw[c4.out];exact Nat.le_refl _,by show _<=_;rw[c4.out];simp⟩
 case round=>
  clear dk dl dn;obtain⟨c,a,m,f,g,rfl,dz,b6,bx,hF,r,bi,b7,bo⟩:=hrel;have a3:Hid (∀W,af wr W->W.cell? ⟨J,0,none⟩=some (.string p)/\W.cell? ⟨J,482,none⟩=some (.map (some hb))/\W.cell? ⟨c,0,none⟩=some (.int .i64 (a:Int))/\W.cell? ⟨c,1,none⟩=some (.int .i64 (m:Int))):=by
   show∀W,_;intro W n;have t:=(P.out W (r.out.B.trans (n.mono r.out.n2))).1.S;have cs:=hF.out.below n;exact⟨t.c0,t.cm,cs.cell 0 _ rfl,cs.cell 1 _ rfl⟩
  by_cases ce:a<p.size
  ·obtain⟨b,b8,B⟩:=d4.out a m ce b6;have bz:=Lib.hid B;have d6:=Lib.hid b8;have c5:Hid (EF wr ap (.pointer (some ⟨c,0,none⟩))=C a m):=GR (P.out wr r.out.B).1.S hF.out dz b6
   have b3:Hid (∀(V:Nat) (W:World),w.heap.size<=V->aa W V #[.int .i64 (b.at_:Int),.int .i64 (b.mode:Int)] 179->BO w.heap.size w W k (g++cf p a m b)->
    (∃(c a m f:Nat) (g:List Bool),Value.pointer (some ⟨V,0,none⟩)= .pointer (some ⟨c,0,none⟩)/\a<=p.size/\m<5/\w.heap.size<=c/\Hid (aa W c #[.int .i64 (a:Int),.int .i64 (m:Int)] 179)/\Hid (BO w.heap.size w W k g)/\Hid (g++fZ p A f a m=fZ p A c0 0 0)/\Hid (C a m<=f)/\Hid (g.length+C a m<=c0))/\EF W ap (.pointer (some ⟨V,0,none⟩))<EF wr ap (.pointer (some ⟨c,0,none⟩))):=by
    show∀(V:Nat) (W:World),_;intro V W dE cv cx;have ew:C a m=b.size+C b.at_ b.mode:=B.eq;have ez:=B.ps;have eA:=B.ln;have e0:=b7.out;have e9:=bo.out;obtain⟨a4,rfl⟩:∃a4,f=a4+1:=⟨f-1,by omega⟩;refine⟨⟨V,b.at_,b.mode,a4,g++cf p a m b,rfl,B.le,B.md,dE,cv,cx,?_,?_,?_⟩,?_⟩
    ·have t:=bi.out;have e1:fZ p A (a4+1) a m=cf p a m b++fZ p A a4 b.at_ b.mode:=by
      show(if a<p.size then _ else _)=_;rw[if_pos ce,b8]
     rw[e1,<-List.append_assoc]at t;exact t
    ·show _<=_;omega
    ·show _<=_;rw[List.length_append];omega
    ·rw[c5.out,GR (P.out W cx.B).1.S cv B.le B.md];omega
   have X:Hid (g.length<=1073741824):=by show _<=_;have:=bo.out;have:=bv.out;omega
   have fb:=fT m;have fc:=B.nm;have d7:=B.s1;have d8:=B.s2;have c6:b.run<=4096:=by have:=B.rn;omega
   have d9:=P.out wr r.out.B;clear bi b7 bo c5 b8 B d9;go_wp2;refine yO (af wr) [1,2,3,4,5,6,7,8] (ai (Below.refl _ _)) ?_
   repeat refine zO a3.out ?_
   refine ag ?_;have b1:Hid (aa wr.drew c #[.int .i64 (a:Int),.int .i64 (m:Int)] 179):=hF.out.below (ai (Below.refl _ _));have M:Hid (BO w.heap.size w wr.drew k g):=r.out.below (ai (Below.refl _ _));have a0:Hid (∀W,af wr.drew W->W.cell? ⟨J,482,none⟩=some (.map (some hb))):=λW n=>(a3.out W (ae (ai (Below.refl _ _)) n)).2.1;clear hF r a3;go_wp2;generalize ea:wr.drew=K at b1 M a0⊢;clear ea;have c7:Hid (∀W,af K W->cO W hb ca A):=λW n=>(P.out W (M.out.B.trans (n.mono M.out.n2))).2;refine yO (af K) [1,2,3,4,5,6,0,7,8] (ai (Below.refl _ _)) ?_;refine zO a0.out ?_;refine zO a0.out ?_;refine zO a0.out ?_;refine zO a0.out ?_;refine' zV rfl (λW n=>jV 179 _ Tryz.underlying179 rfl rfl c [_,_] dD rfl (b1.out.below n).cells) ?_;refine' zV rfl (λW n=>CA (c7.out W n) rfl rfl a m rfl oO b6 b d6.out) ?_;refine' ep 181 rfl rfl _ mR (ah (ai (Below.refl _ _)) _) ?_;simp only[yQ,yU,yX,yY];refine' vt 181 rfl _ _ rfl 181 _ b.aE rfl rfl fG rfl b.one (ah (ai (Below.refl _ _)) _) ?_;simp only[Act.put];refine ag ?_;have a8:Hid (aa (K.drew.alloc (.cells b.aE.toArray 181)) c #[.int .i64 (a:Int),.int .i64 (m:Int)] 179/\aa (K.drew.alloc (.cells b.aE.toArray 181)) K.drew.heap.size b.aE.toArray 181):=⟨b1.out.below (ah (ai (Below.refl _ _)) _),aa.new _ _ _ _ rfl⟩;have c8:Hid (BO w.heap.size w (K.drew.alloc (.cells b.aE.toArray 181)) k g):=M.out.below (ah (ai (Below.refl _ _)) _);clear b1 M a0 c7;generalize K.drew.alloc (.cells b.aE.toArray 181)=bq at*;generalize K.drew.heap.size=j at*;go_wp2;have a1:Hid (∀W,(aa W c #[.int .i64 (a:Int),.int .i64 (m:Int)] 179/\aa W j b.aE.toArray 181)->W.cell? ⟨j,0,none⟩=some (.int .i64 (b.num:Int))/\W.cell? ⟨c,1,none⟩=some (.int .i64 (m:Int))):=λW n=>⟨n.2.cell 0 _ rfl,n.1.cell 1 _ rfl⟩;refine yO (λW=>aa W c #[.int .i64 (a:Int),.int .i64 (m:Int)] 179/\aa W j b.aE.toArray 181) [1,2,3,4,5,0,6,7] a8.out ?_;refine zO a1.out ?_;refine zO a1.out ?_;refine zO a1.out ?_;refine zO a1.out ?_;refine zO a1.out ?_;refine zZ ?_;refine(eZ m _).mono ?_;rintro e ex ⟨rfl,c9⟩;rw[c9];clear c9;refine⟨_,rfl,a8.out,jO ?_⟩;refine zZ ?_;have dp:Hid (BO w.heap.size w bq.drew k g):=c8.out.below (ai (Below.refl _ _));refine(Ec w.heap.size w bq.drew k g b.num (an m) dp.out oO oO (by have:=X.out;omega)).mono ?_;rintro e u ⟨rfl,s,l⟩;have ab:=Lib.hid s;have y:Hid (aa u c #[.int .i64 (a:Int),.int .i64 (m:Int)] 179/\aa u j b.aE.toArray 181):=⟨aa.dF (w:=bq.drew) a8.out.1 l (by simp[notBits]),aa.dF (w:=bq.drew) a8.out.2 l (by simp[notBits])⟩;clear s l c8 dp a8 a1;refine⟨_,rfl,y.out,jO ?_⟩;refine ag ?_;have a2:=Lib.hid (aL b.num (an m));have b9:u.cell? ⟨j,1,none⟩=some (.int .i64 b.sec):=y.out.2.cell 1 _ rfl;have Q:u.cell? ⟨j,2,none⟩=some (.int .i64 (b.run:Int)):=y.out.2.cell 2 _ rfl;have bs:u.cell? ⟨j,3,none⟩=some (.bool b.long):=y.out.2.cell 3 _ rfl;by_cases F:0<=b.sec
   ·obtain⟨bt,ch⟩:=Int.eq_ofNat_of_zero_le F;have N:=bz.out.sr F;have G:Hid (cf p a m b=aH b.num (an m)++aH bt 5):=by
     show _=_;unfold cf lT;rw[if_pos F,N,if_neg oO,List.append_nil,ch];rfl
    rw[ch]at b9 d8;rw[N]at Q;have fl:bt<32:=oO;clear F d7 ch Q
    go_wp2_with(first
     |(go_at_call 131;(with_reducible show Calls _ _ _ u _);refine(ow w.heap.size w u k (g++aH b.num (an m)) bt 5 _ _ rfl rfl ab.out oO oO (by have:=X.out;have:=a2.out;simp only[List.length_append,aL];omega)).mono ?_;rintro e z ⟨rfl,s,l⟩;have a9:=Lib.hid s;have H:Hid (aa z c #[.int .i64 (a:Int),.int .i64 (m:Int)] 179/\aa z j b.aE.toArray 181):=⟨y.out.1.dF l (by simp[notBits]),y.out.2.dF l (by simp[notBits])⟩;have ds:z.cell? ⟨j,2,none⟩=some (.int .i64 0):=(by have t:z.cell? ⟨j,2,none⟩=some (.int .i64 (b.run:Int)):=H.out.2.cell 2 _ rfl;rw[N]at t;exact t);have D:Hid (aa z c #[.int .i64 (a:Int),.int .i64 (m:Int)] 179):=H.out.1;have Y:Hid (ak z j b.aE):=H.out.2.cells;clear s l)
     |((with_reducible show wpList _ _ _ (⟨_,Op.load 179 _,_,_,_,_⟩::_) _ _);first|refine bj rfl 179 _ rfl _ Tryz.underlying179 rfl ⟨j,5,none⟩ [.int .i64 (b.at_:Int),.int .i64 (b.mode:Int)] dD rfl (pG Y.out) ?_|refine bj rfl 179 _ rfl _ Tryz.underlying179 rfl ⟨c,0,none⟩ [.int .i64 (b.at_:Int),.int .i64 (b.mode:Int)] dD rfl (gL ((D.out.set _).cells)) ?_)
     |((with_reducible show wpList _ _ _ (⟨_,Op.alloc 179,_,_,_,_⟩::_) _ _);refine aM rfl 179 rfl _ j3 ?_)
     |((with_reducible show wpList _ _ _ (⟨_,Op.store 179 _ _,_,_,_,_⟩::_) _ _);first|(refine bT rfl 179 _ _ rfl 179 c 0 #[.int .i64 (a:Int),.int .i64 (m:Int)] [.int .i64 (b.at_:Int),.int .i64 (b.mode:Int)] rfl rfl D.out dD (by show 2<=2;omega) (fW _ _) ?_;rw[jB [.int .i64 (a:Int),.int .i64 (m:Int)] [.int .i64 (b.at_:Int),.int .i64 (b.mode:Int)] rfl])|refine aR rfl 179 _ _ rfl 179 _ [_,_] rfl rfl dD rfl (fW _ _) ?_))
    have ac:Hid (BO w.heap.size w ((z.setRow c #[.int .i64 (b.at_:Int),.int .i64 (b.mode:Int)]).alloc (.cells #[.int .i64 (b.at_:Int),.int .i64 (b.mode:Int)] 179)) k (g++cf p a m b)):=by
     have t:=(a9.out.setRow bx H.out.1 #[.int .i64 (b.at_:Int),.int .i64 (b.mode:Int)]).below (ax _ (.cells #[.int .i64 (b.at_:Int),.int .i64 (b.mode:Int)] 179));rw[show g++cf p a m b=(g++aH b.num (an m))++aH bt 5 from(by rw[G.out,List.append_assoc])];exact t
    have ad:w.heap.size<=z.heap.size:=a9.out.n2;exact b3.out _ _ (by simpa using ad) (aa.new _ _ _ _ oS) ac.out
   have fd:decide ((0:Int)<=b.sec)=false:=by simp;omega
   by_cases N:b.run=0
   ·have G:Hid (cf p a m b=aH b.num (an m)):=by
     show _=_;unfold cf lT;rw[if_neg F,N,if_neg oO,List.append_nil,List.append_nil]
    rw[N]at Q;clear F;have D:Hid (aa u c #[.int .i64 (a:Int),.int .i64 (m:Int)] 179):=y.out.1;have Y:Hid (ak u j b.aE):=y.out.2.cells
    go_wp2_with(first
     |((with_reducible show wpList _ _ _ (⟨_,Op.load 179 _,_,_,_,_⟩::_) _ _);first|refine bj rfl 179 _ rfl _ Tryz.underlying179 rfl ⟨j,5,none⟩ [.int .i64 (b.at_:Int),.int .i64 (b.mode:Int)] dD rfl (pG Y.out) ?_|refine bj rfl 179 _ rfl _ Tryz.underlying179 rfl ⟨c,0,none⟩ [.int .i64 (b.at_:Int),.int .i64 (b.mode:Int)] dD rfl (gL ((D.out.set _).cells)) ?_)
     |((with_reducible show wpList _ _ _ (⟨_,Op.alloc 179,_,_,_,_⟩::_) _ _);refine aM rfl 179 rfl _ j3 ?_)
     |((with_reducible show wpList _ _ _ (⟨_,Op.store 179 _ _,_,_,_,_⟩::_) _ _);first|(refine bT rfl 179 _ _ rfl 179 c 0 #[.int .i64 (a:Int),.int .i64 (m:Int)] [.int .i64 (b.at_:Int),.int .i64 (b.mode:Int)] rfl rfl D.out dD (by show 2<=2;omega) (fW _ _) ?_;rw[jB [.int .i64 (a:Int),.int .i64 (m:Int)] [.int .i64 (b.at_:Int),.int .i64 (b.mode:Int)] rfl])|refine aR rfl 179 _ _ rfl 179 _ [_,_] rfl rfl dD rfl (fW _ _) ?_))
    have ac:Hid (BO w.heap.size w ((u.setRow c #[.int .i64 (b.at_:Int),.int .i64 (b.mode:Int)]).alloc (.cells #[.int .i64 (b.at_:Int),.int .i64 (b.mode:Int)] 179)) k (g++cf p a m b)):=by
     have t:=(ab.out.setRow bx y.out.1 #[.int .i64 (b.at_:Int),.int .i64 (b.mode:Int)]).below (ax _ (.cells #[.int .i64 (b.at_:Int),.int .i64 (b.mode:Int)] 179));rw[show g++cf p a m b=g++aH b.num (an m)from(by rw[G.out])];exact t
    have ad:w.heap.size<=u.heap.size:=ab.out.n2;exact b3.out _ _ (by simpa using ad) (aa.new _ _ _ _ oS) ac.out
   cases a5:b.long with
   |true=>
    rw[a5]at bs;have ek:=bz.out.lg oO a5;have G:Hid (g++cf p a m b=(((g++aH b.num (an m))++aH 0 5)++aH (b.run-31) 11)++byF p a b.run):=by
     show _=_;unfold cf lT;rw[if_neg F,if_pos oO,if_pos a5,List.append_nil];simp only[List.append_assoc]
    have cp:a+b.run<=p.size:=bz.out.rn;obtain⟨rn,al⟩:∃rn,rn=b.run:=⟨_,rfl⟩;have b2:=Lib.hid al;rw[<-al]at N c6 ek cp G Q;clear al;have fn:IntKind.i64.wrap ((rn:Int)-31)=((rn-31:Nat):Int):=by rw[aF _ oO oO];omega
    have ec:0<rn:=oO;clear F;go_wp2_with(go_at_call 131;(with_reducible show Calls _ _ _ u _);refine(ow w.heap.size w u k (g++aH b.num (an m)) 0 5 _ _ rfl rfl ab.out oO oO (by have:=X.out;have:=a2.out;simp only[List.length_append,aL];omega)).mono ?_;rintro e z ⟨rfl,s,l⟩;have a9:=Lib.hid s;have H:Hid (aa z c #[.int .i64 (a:Int),.int .i64 (m:Int)] 179/\aa z j b.aE.toArray 181):=⟨y.out.1.dF l (by simp[notBits]),y.out.2.dF l (by simp[notBits])⟩;have ds:z.cell? ⟨j,2,none⟩=some (.int .i64 (rn:Int)):=(by rw[b2.out];exact H.out.2.cell 2 _ rfl);clear s l)
    clear ab y b9 Q bs;go_wp2_with(go_at_call 131;(with_reducible show Calls _ _ _ z _);refine(ow w.heap.size w z k ((g++aH b.num (an m))++aH 0 5) (rn-31) 11 _ _ rfl rfl a9.out oO oO (by have:=X.out;have:=a2.out;simp only[List.length_append,aL];omega)).mono ?_;rintro e S ⟨rfl,s,l⟩;have bb:=Lib.hid s;have am:Hid (aa S c #[.int .i64 (a:Int),.int .i64 (m:Int)] 179/\aa S j b.aE.toArray 181):=⟨H.out.1.dF l (by simp[notBits]),H.out.2.dF l (by simp[notBits])⟩;have er:S.cell? ⟨j,2,none⟩=some (.int .i64 (rn:Int)):=(by rw[b2.out];exact am.out.2.cell 2 _ rfl);clear s l)
    clear a9 H ds;have ci:Hid ((((g++aH b.num (an m))++aH 0 5)++aH (rn-31) 11).length<=1073742000):=by show _<=_;have:=X.out;have:=a2.out;simp only[List.length_append,aL];omega
    generalize((g++aH b.num (an m))++aH 0 5)++aH (rn-31) 11=L at*;go_loopw [64] (λT wr=>∃i:Nat,i<=rn/\T= .int .i64 i/\Hid (BO w.heap.size w wr k (L++byF p a i))/\Hid (aa wr c #[.int .i64 (a:Int),.int .i64 (m:Int)] 179/\aa wr j b.aE.toArray 181)) (λT _=>rn-(intOf T).toNat)
    case atStart=>exact⟨0,Nat.zero_le _,rfl,by show BO _ _ _ _ _;rw[show byF p a 0=[]from rfl,List.append_nil];exact bb.out,am.out⟩
    case round=>
     clear bb am;obtain⟨i,ed,rfl,r,hF⟩:=hrel;by_cases el:i<rn
     ·obtain⟨x,a6⟩:∃x,x=(p.data.toList.getD (a+i) 0).toNat:=⟨_,rfl⟩;have Z:=Lib.hid a6;have o:Hid (∀W,(Below w.heap.size w W/\aa W c #[.int .i64 (a:Int),.int .i64 (m:Int)] 179)->W.cell? ⟨J,0,none⟩=some (.string p)/\W.cell? ⟨c,0,none⟩=some (.int .i64 (a:Int))):=λW n=>⟨(P.out W n.1).1.S.c0,n.2.cell 0 _ rfl⟩;have ck:a+i<p.size:=oO;have em:IntKind.i64.wrap ((a:Int)+(i:Int))=((a+i:Nat):Int):=by rw[aF _ oO oO];omega
      clear a6;go_wp2;refine yO (λW=>Below w.heap.size w W/\aa W c #[.int .i64 (a:Int),.int .i64 (m:Int)] 179) [1,2,3,4,5,6,7,8,9,10,11,0,12] ⟨ai r.out.B,hF.out.1⟩ ?_;refine zO o.out ?_;refine zO o.out ?_;refine zO o.out ?_;refine zO o.out ?_;refine zO o.out ?_;refine zO o.out ?_;refine zO o.out ?_;refine zO o.out ?_;refine zO o.out ?_;refine' zV rfl (λW n=>vd rfl rfl rfl (a+i) rfl ck) ?_;rw[<-Z.out];have en:x<256:=by rw[Z.out];exact UInt8.toNat_lt _
      refine zO o.out ?_;refine zZ ?_;have a7:Hid (BO w.heap.size w wr.drew k (L++byF p a i)):=r.out.below (ai (Below.refl _ _));rw[show IntKind.i64.wrap (x:Int)=(x:Int)from aF _ oO oO];refine(ow w.heap.size w wr.drew k (L++byF p a i) x 8 _ _ rfl rfl a7.out oO oO (by have:=ci.out;rw[List.length_append,oq];omega)).mono ?_;rintro e U ⟨rfl,s,l⟩;have bd:Hid (BO w.heap.size w U k (L++byF p a (i+1))):=by
       show BO _ _ _ _ _;rw[show byF p a (i+1)=byF p a i++aH x 8 from by rw[Z.out];rfl,<-List.append_assoc];exact s
      have be:Hid (aa U c #[.int .i64 (a:Int),.int .i64 (m:Int)] 179/\aa U j b.aE.toArray 181):=⟨aa.dF (w:=wr.drew) hF.out.1 l (by simp[notBits]),aa.dF (w:=wr.drew) hF.out.2 l (by simp[notBits])⟩;clear s l r hF a7 o;refine⟨_,rfl,⟨bd.out.B,be.out.1⟩,jO ?_⟩;refine ag ?_;go_wp2;exact⟨⟨i+1,by omega,by go_num,bd.out,be.out⟩,by simp[intOf];omega⟩
     ·have co:i=rn:=oO;have bf:Hid (BO w.heap.size w wr k (L++byF p a rn)):=by rw[<-co];exact r.out
      clear r;have D:Hid (aa wr c #[.int .i64 (a:Int),.int .i64 (m:Int)] 179):=hF.out.1;have Y:Hid (ak wr j b.aE):=hF.out.2.cells
      go_wp2_with(first
       |((with_reducible show wpList _ _ _ (⟨_,Op.load 179 _,_,_,_,_⟩::_) _ _);first|refine bj rfl 179 _ rfl _ Tryz.underlying179 rfl ⟨j,5,none⟩ [.int .i64 (b.at_:Int),.int .i64 (b.mode:Int)] dD rfl (pG Y.out) ?_|refine bj rfl 179 _ rfl _ Tryz.underlying179 rfl ⟨c,0,none⟩ [.int .i64 (b.at_:Int),.int .i64 (b.mode:Int)] dD rfl (gL ((D.out.set _).cells)) ?_)
       |((with_reducible show wpList _ _ _ (⟨_,Op.alloc 179,_,_,_,_⟩::_) _ _);refine aM rfl 179 rfl _ j3 ?_)
       |((with_reducible show wpList _ _ _ (⟨_,Op.store 179 _ _,_,_,_,_⟩::_) _ _);first|(refine bT rfl 179 _ _ rfl 179 c 0 #[.int .i64 (a:Int),.int .i64 (m:Int)] [.int .i64 (b.at_:Int),.int .i64 (b.mode:Int)] rfl rfl D.out dD (by show 2<=2;omega) (fW _ _) ?_;rw[jB [.int .i64 (a:Int),.int .i64 (m:Int)] [.int .i64 (b.at_:Int),.int .i64 (b.mode:Int)] rfl])|refine aR rfl 179 _ _ rfl 179 _ [_,_] rfl rfl dD rfl (fW _ _) ?_))
      have ac:Hid (BO w.heap.size w ((wr.setRow c #[.int .i64 (b.at_:Int),.int .i64 (b.mode:Int)]).alloc (.cells #[.int .i64 (b.at_:Int),.int .i64 (b.mode:Int)] 179)) k (g++cf p a m b)):=by
       have t:=(bf.out.setRow bx hF.out.1 #[.int .i64 (b.at_:Int),.int .i64 (b.mode:Int)]).below (ax _ (.cells #[.int .i64 (b.at_:Int),.int .i64 (b.mode:Int)] 179));rw[show g++cf p a m b=L++byF p a rn from G.out];exact t
      have ad:w.heap.size<=wr.heap.size:=bf.out.n2;exact b3.out _ _ (by simpa using ad) (aa.new _ _ _ _ oS) ac.out
   |false=>
    rw[a5]at bs;have G:Hid (g++cf p a m b=((g++aH b.num (an m))++aH b.run 5)++byF p a b.run):=by
     show _=_;unfold cf lT;rw[if_neg F,if_pos oO,if_neg (by rw[a5];simp),List.append_nil];simp only[List.append_assoc]
    have cp:a+b.run<=p.size:=bz.out.rn;obtain⟨rn,al⟩:∃rn,rn=b.run:=⟨_,rfl⟩;have b2:=Lib.hid al;rw[<-al]at N c6 cp G Q;clear al;have ec:0<rn:=oO;clear F;go_wp2_with(go_at_call 131;(with_reducible show Calls _ _ _ u _);refine(ow w.heap.size w u k (g++aH b.num (an m)) rn 5 _ _ rfl rfl ab.out oO oO (by have:=X.out;have:=a2.out;simp only[List.length_append,aL];omega)).mono ?_;rintro e S ⟨rfl,s,l⟩;have bb:=Lib.hid s;have am:Hid (aa S c #[.int .i64 (a:Int),.int .i64 (m:Int)] 179/\aa S j b.aE.toArray 181):=⟨y.out.1.dF l (by simp[notBits]),y.out.2.dF l (by simp[notBits])⟩;have er:S.cell? ⟨j,2,none⟩=some (.int .i64 (rn:Int)):=(by rw[b2.out];exact am.out.2.cell 2 _ rfl);clear s l)
    clear ab y b9 Q bs;have ci:Hid (((g++aH b.num (an m))++aH rn 5).length<=1073742000):=by show _<=_;have:=X.out;have:=a2.out;simp only[List.length_append,aL];omega
    generalize(g++aH b.num (an m))++aH rn 5=L at*;go_loopw [64] (λT wr=>∃i:Nat,i<=rn/\T= .int .i64 i/\Hid (BO w.heap.size w wr k (L++byF p a i))/\Hid (aa wr c #[.int .i64 (a:Int),.int .i64 (m:Int)] 179/\aa wr j b.aE.toArray 181)) (λT _=>rn-(intOf T).toNat)
    case atStart=>exact⟨0,Nat.zero_le _,rfl,by show BO _ _ _ _ _;rw[show byF p a 0=[]from rfl,List.append_nil];exact bb.out,am.out⟩
    case round=>
     clear bb am;obtain⟨i,ed,rfl,r,hF⟩:=hrel;by_cases el:i<rn
     ·obtain⟨x,a6⟩:∃x,x=(p.data.toList.getD (a+i) 0).toNat:=⟨_,rfl⟩;have Z:=Lib.hid a6;have o:Hid (∀W,(Below w.heap.size w W/\aa W c #[.int .i64 (a:Int),.int .i64 (m:Int)] 179)->W.cell? ⟨J,0,none⟩=some (.string p)/\W.cell? ⟨c,0,none⟩=some (.int .i64 (a:Int))):=λW n=>⟨(P.out W n.1).1.S.c0,n.2.cell 0 _ rfl⟩;have ck:a+i<p.size:=oO;have em:IntKind.i64.wrap ((a:Int)+(i:Int))=((a+i:Nat):Int):=by rw[aF _ oO oO];omega
      clear a6;go_wp2;refine yO (λW=>Below w.heap.size w W/\aa W c #[.int .i64 (a:Int),.int .i64 (m:Int)] 179) [1,2,3,4,5,6,7,8,9,10,11,0,12] ⟨ai r.out.B,hF.out.1⟩ ?_;refine zO o.out ?_;refine zO o.out ?_;refine zO o.out ?_;refine zO o.out ?_;refine zO o.out ?_;refine zO o.out ?_;refine zO o.out ?_;refine zO o.out ?_;refine zO o.out ?_;refine' zV rfl (λW n=>vd rfl rfl rfl (a+i) rfl ck) ?_;rw[<-Z.out];have en:x<256:=by rw[Z.out];exact UInt8.toNat_lt _
      refine zO o.out ?_;refine zZ ?_;have a7:Hid (BO w.heap.size w wr.drew k (L++byF p a i)):=r.out.below (ai (Below.refl _ _));rw[show IntKind.i64.wrap (x:Int)=(x:Int)from aF _ oO oO];refine(ow w.heap.size w wr.drew k (L++byF p a i) x 8 _ _ rfl rfl a7.out oO oO (by have:=ci.out;rw[List.length_append,oq];omega)).mono ?_;rintro e U ⟨rfl,s,l⟩;have bd:Hid (BO w.heap.size w U k (L++byF p a (i+1))):=by
       show BO _ _ _ _ _;rw[show byF p a (i+1)=byF p a i++aH x 8 from by rw[Z.out];rfl,<-List.append_assoc];exact s
      have be:Hid (aa U c #[.int .i64 (a:Int),.int .i64 (m:Int)] 179/\aa U j b.aE.toArray 181):=⟨aa.dF (w:=wr.drew) hF.out.1 l (by simp[notBits]),aa.dF (w:=wr.drew) hF.out.2 l (by simp[notBits])⟩;clear s l r hF a7 o;refine⟨_,rfl,⟨bd.out.B,be.out.1⟩,jO ?_⟩;refine ag ?_;go_wp2;exact⟨⟨i+1,by omega,by go_num,bd.out,be.out⟩,by simp[intOf];omega⟩
     ·have co:i=rn:=oO;have bf:Hid (BO w.heap.size w wr k (L++byF p a rn)):=by rw[<-co];exact r.out
      clear r;have D:Hid (aa wr c #[.int .i64 (a:Int),.int .i64 (m:Int)] 179):=hF.out.1;have Y:Hid (ak wr j b.aE):=hF.out.2.cells
      go_wp2_with(first
       |((with_reducible show wpList _ _ _ (⟨_,Op.load 179 _,_,_,_,_⟩::_) _ _);first|refine bj rfl 179 _ rfl _ Tryz.underlying179 rfl ⟨j,5,none⟩ [.int .i64 (b.at_:Int),.int .i64 (b.mode:Int)] dD rfl (pG Y.out) ?_|refine bj rfl 179 _ rfl _ Tryz.underlying179 rfl ⟨c,0,none⟩ [.int .i64 (b.at_:Int),.int .i64 (b.mode:Int)] dD rfl (gL ((D.out.set _).cells)) ?_)
       |((with_reducible show wpList _ _ _ (⟨_,Op.alloc 179,_,_,_,_⟩::_) _ _);refine aM rfl 179 rfl _ j3 ?_)
       |((with_reducible show wpList _ _ _ (⟨_,Op.store 179 _ _,_,_,_,_⟩::_) _ _);first|(refine bT rfl 179 _ _ rfl 179 c 0 #[.int .i64 (a:Int),.int .i64 (m:Int)] [.int .i64 (b.at_:Int),.int .i64 (b.mode:Int)] rfl rfl D.out dD (by show 2<=2;omega) (fW _ _) ?_;rw[jB [.int .i64 (a:Int),.int .i64 (m:Int)] [.int .i64 (b.at_:Int),.int .i64 (b.mode:Int)] rfl])|refine aR rfl 179 _ _ rfl 179 _ [_,_] rfl rfl dD rfl (fW _ _) ?_))
      have ac:Hid (BO w.heap.size w ((wr.setRow c #[.int .i64 (b.at_:Int),.int .i64 (b.mode:Int)]).alloc (.cells #[.int .i64 (b.at_:Int),.int .i64 (b.mode:Int)] 179)) k (g++cf p a m b)):=by
       have t:=(bf.out.setRow bx hF.out.1 #[.int .i64 (b.at_:Int),.int .i64 (b.mode:Int)]).below (ax _ (.cells #[.int .i64 (b.at_:Int),.int .i64 (b.mode:Int)] 179));rw[show g++cf p a m b=L++byF p a rn from G.out];exact t
      have ad:w.heap.size<=wr.heap.size:=bf.out.n2;exact b3.out _ _ (by simpa using ad) (aa.new _ _ _ _ oS) ac.out
  ·have d0:Hid (g=fZ p A c0 0 0):=by
    show _=_;rw[<-bi.out];have e1:fZ p A f a m=[]:=by
     cases f with
     |zero=>rfl
     |succ f=>show(if a<p.size then _ else _)=_;rw[if_neg ce]
    rw[e1,List.append_nil]
   obtain⟨cN,c2,da,dd⟩:=r.out.X;have ef:=Lib.hid da;have eh:=Lib.hid dd;have ei:=Lib.hid r.out.B;clear hF r bi b7 bo da dd;go_wp2;refine yO (af wr) [1,2,3,4,5,6,7,8] (ai (Below.refl _ _)) ?_
   repeat refine zO a3.out ?_
   refine ag ?_;have eq:Hid (aa wr.drew k #[.slice cN g.length c2] 26):=ef.out.below (ai (Below.refl _ _));have ey:wr.drew.cell? ⟨k,0,none⟩=some (.slice cN g.length c2):=eq.out.cell 0 _ rfl;clear a3;go_wp2;go_ret;refine⟨_,rfl,?_,ai ei.out⟩;rw[<-d0.out];exact SG.cd (f:=vB) (d:=false) (au eh.out (ai (Below.refl _ _)))
structure cj (p:ByteArray) (C:Nat->Nat->Nat):Prop where
 fix:∀a,a<p.size->lX C p a
 zero:∀a m,p.size<=a->C a m=0
 top:∀a m,C a m<=1073741824
theorem km (m:Nat):4<=an m:=by unfold an;split<;>omega
theorem zk {C:Nat->Nat->Nat} {num at_ m:Nat} {a:az} {n sz:Nat} {lg:Bool} (hb:a.mode=m):(cQ C num at_ m a n sz lg).mode=m:=by unfold cQ;split<;>first|rfl|exact hb
theorem sk {C:Nat->Nat->Nat} {num at_ m:Nat}:∀k,(ff C num at_ m k).mode=m
 |0=>rfl
 |k+1=>zk (sk k)
theorem vo {C:Nat->Nat->Nat} {num at_ m K:Nat}:∀k,(dH C num at_ m K k).mode=m
 |0=>sk K
 |k+1=>zk (vo k)
theorem uR {C C':Nat->Nat->Nat} {num at_ m:Nat} {b:az} {n sz:Nat} {lg:Bool} (h:∀a,at_<a->C a m=C' a m) (hn:0<n) (c:b.mode=m) (hb:b.run=0\/at_<b.at_):cQ C num at_ m b n sz lg=cQ C' num at_ m b n sz lg:=by
 have e1:az.bI C ⟨num,-1,n,lg,sz+8* n,at_+n,m⟩=az.bI C' ⟨num,-1,n,lg,sz+8* n,at_+n,m⟩:=by
  unfold az.bI;rw[h _ (by show at_<at_+n;omega)]
 unfold cQ;rcases hb with hb|hb
 ·rw[if_pos (.inl hb),if_pos (.inl hb)]
 ·have e2:b.bI C=b.bI C':=by unfold az.bI;rw[c,h _ hb]
  rw[e1,e2]
theorem tO {C C':Nat->Nat->Nat} {num at_ m:Nat} (h:∀a,at_<a->C a m=C' a m):∀k,ff C num at_ m k=ff C' num at_ m k
 |0=>rfl
 |k+1=>by
  show cQ C _ _ _ _ _ _ _=cQ C' _ _ _ _ _ _ _;rw[uR h oO (sk k) (nI k),tO h k]
theorem su {C C':Nat->Nat->Nat} {num at_ m K:Nat} (h:∀a,at_<a->C a m=C' a m):∀k,dH C num at_ m K k=dH C' num at_ m K k
 |0=>tO h K
 |k+1=>by
  show cQ C _ _ _ _ _ _ _=cQ C' _ _ _ _ _ _ _;rw[uR h oO (vo k) (od k),su h k]
theorem qd {C C':Nat->Nat->Nat} {p:ByteArray} {at_ m:Nat} (h:∀a,at_<a->C a m=C' a m):∀k,bJ C p at_ m k=bJ C' p at_ m k
 |0=>rfl
 |k+1=>by
  unfold bJ;rw[qd h k];congr 1;unfold dU eW;rw[su h]
theorem sX {C:Nat->Nat->Nat} {p:ByteArray} {at_ m:Nat} {c:az}:∀k,c∈bJ C p at_ m k->0<c.size:=by
 have g:=km m;have d:∀num k,0<(ff C num at_ m k).size:=by
  intro num k
  induction k with
  |zero=>show 0<1073741824;omega
  |succ k b=>
   show 0<(cQ _ _ _ _ _ _ _ _).size;unfold cQ;split
   ·show 0<an m+16+8* (31+k);omega
   ·exact b
 have e:∀num K k,0<(dH C num at_ m K k).size:=by
  intro num K k
  induction k with
  |zero=>exact d num K
  |succ k b=>
   show 0<(cQ _ _ _ _ _ _ _ _).size;unfold cQ;split
   ·show 0<an m+5+8* (1+k);omega
   ·exact b
 have f:∀n,c∈dU C p at_ m n->0<c.size:=by
  intro n a;unfold dU at a;split at a
  ·split at a
   ·rw[List.mem_singleton]at a;subst a;show 0<an m;omega
   ·cases a
  split at a
  ·rw[List.mem_singleton]at a;subst a;show 0<an m;omega
  split at a
  ·have key:∀k,c∈optSK p at_ m n (modeF m n) k->0<c.size:=by
    intro k
    induction k with
    |zero=>intro h;cases h
    |succ k b=>
     intro h;unfold optSK at h;rw[List.mem_append]at h;rcases h with h|h
     ·exact b h
     ·unfold mS at h;split at h
      ·rw[List.mem_singleton]at h;subst h;show 0<an m+an (modeF m n);omega
      ·cases h
   exact key 32 a
  split at a
  ·rw[List.mem_singleton]at a;subst a;exact e _ _ _
  ·cases a
 intro k
 induction k with
 |zero=>intro h;cases h
 |succ k b=>
  intro h;unfold bJ at h;rw[List.mem_append]at h;rcases h with h|h
  ·exact b h
  ·exact f _ h
theorem cj.K2 {p:ByteArray} {C C':Nat->Nat->Nat} (k:p.size<=4096) (h:cj p C) (l:cj p C') (a:Nat) (g:a<p.size) (i:∀a' m,a<a'->m<5->C a' m=C' a' m):∀x m,m<5->C' a m=x->C a m<=C' a m:=by
 intro x
 induction x using Nat.strongRecOn with
 |ind x r=>
  intro m c u;rcases(l.fix a g).2 m c with n|⟨f,b,e⟩
  ·rw[n];exact h.top a m
  ·have o:bJ C' p a m 32=bJ C p a m 32:=qd (λa' s=>(i a' m s c).symm) 32;have j:=qt g k c 32 b;have v:=sX 32 b;have t:=yM 32 b;rw[o]at b;have q:=(h.fix a g).1 m c f b;refine Nat.le_trans q ?_;rw[<-e];unfold az.bI at e⊢;refine Nat.add_le_add_left ?_ _;rcases Nat.eq_or_lt_of_le t with d|d
   ·rw[<-d];rw[<-d]at e;exact r (C' a f.mode) oO f.mode j.2.1 rfl
   ·rw[i _ _ d j.2.1];exact Nat.le_refl _
theorem cj.uniq {p:ByteArray} {C C':Nat->Nat->Nat} (f:p.size<=4096) (h:cj p C) (c:cj p C') (a m:Nat) (d:m<5):C a m=C' a m:=by
 have key:∀k a,p.size<=a+k->∀m,m<5->C a m=C' a m:=by
  intro k
  induction k with
  |zero=>intro a b m _;rw[h.zero a m b,c.zero a m b]
  |succ k j=>
   intro a l m d;by_cases b:a<p.size
   ·have i:∀a' m,a<a'->m<5->C a' m=C' a' m:=λa' m g e=>j a' oO m e;exact Nat.le_antisymm (h.K2 f c a b i _ m d rfl) (c.K2 f h a b (λa' m g e=>(i a' m g e).symm) _ m d rfl)
   ·rw[h.zero a m oO,c.zero a m oO]
 exact key p.size a oO m d
theorem yJ {C:Nat->Nat->Nat} {num at_ m:Nat} {a:az} {n sz:Nat} {lg:Bool} (hb:a.run≠0):(cQ C num at_ m a n sz lg).bI C<=a.bI C:=by
 unfold cQ;split
 ·rename_i h
  rcases h with h|h
  ·exact absurd h hb
  ·exact Nat.le_of_lt h
 ·exact Nat.le_refl _
theorem Cp {C:Nat->Nat->Nat} {num at_ m:Nat} {a:az} {n sz:Nat} {lg:Bool}:(cQ C num at_ m a n sz lg).bI C<=az.bI C ⟨num,-1,n,lg,sz+8* n,at_+n,m⟩:=by
 unfold cQ;split
 ·exact Nat.le_refl _
 ·rename_i h;omega
theorem nA {C:Nat->Nat->Nat} {num at_ m:Nat} {a:az} {n sz:Nat} {lg:Bool} (hn:0<n):(cQ C num at_ m a n sz lg).run≠0:=by
 unfold cQ;split
 ·show n≠0;omega
 ·rename_i h;exactλe=>h (.inl e)
theorem tA {C:Nat->Nat->Nat} {num at_ m K:Nat}:∀k j,1<=j->j<=k->(dH C num at_ m K k).bI C<=az.bI C ⟨num,-1,j,false,an m+5+8* j,at_+j,m⟩
 |0,j,a,b=>by omega
 |k+1,j,a,b=>by
  show(cQ _ _ _ _ _ _ _ _).bI C<=_;by_cases e:j=1+k
  ·subst e;exact Cp
  ·have c:=tA (C:=C) (num:=num) (at_:=at_) (m:=m) (K:=K) k j a oO;refine Nat.le_trans (yJ ?_) c;cases k with
   |zero=>omega
   |succ k=>exact nA oO
theorem Bp {C:Nat->Nat->Nat} {num at_ m:Nat}:∀k j,31<=j->j<31+k->(ff C num at_ m k).bI C<=az.bI C ⟨num,-1,j,true,an m+16+8* j,at_+j,m⟩
 |0,j,a,b=>by omega
 |k+1,j,a,b=>by
  show(cQ _ _ _ _ _ _ _ _).bI C<=_;by_cases e:j=31+k
  ·subst e;exact Cp
  ·have c:=Bp (C:=C) (num:=num) (at_:=at_) (m:=m) k j a oO;refine Nat.le_trans (yJ ?_) c;cases k with
   |zero=>omega
   |succ k=>exact nA oO
theorem qU {C:Nat->Nat->Nat} {num at_ m K:Nat} (a:0<K):∀k,(dH C num at_ m K k).bI C<=(ff C num at_ m K).bI C/\(dH C num at_ m K k).run≠0
 |0=>⟨Nat.le_refl _,by
  obtain⟨K',rfl⟩:∃K',K=K'+1:=⟨K-1,by omega⟩
  exact nA oO⟩
 |k+1=>⟨Nat.le_trans (yJ (qU a k).2) (qU a k).1,nA oO⟩
theorem rR {C:Nat->Nat->Nat} {p:ByteArray} {at_ m n:Nat} {a:az} (b:a∈dU C p at_ m n):∀k,n<k->a∈bJ C p at_ m k
 |0,h=>by omega
 |k+1,h=>by
  unfold bJ;rw[List.mem_append];by_cases e:n=k
  ·subst e;exact .inr b
  ·exact .inl (rR b k oO)
theorem cj.bin {p:ByteArray} {C:Nat->Nat->Nat} (h:cj p C) (a m:Nat) (b:a<p.size) (l:m<3):C a m<=18+C (a+1) m:=by
 have c:bV m 31=4:=by
  have k0:bV 0 31=4:=oK;have d:bV 1 31=4:=oK;have e:bV 2 31=4:=oK;have f:m=0\/m=1\/m=2:=oO;rcases f with rfl|rfl|rfl
  ·exact k0
  ·exact d
  ·exact e
 have g:an m=5:=by unfold an;rw[if_neg oO]
 have i:eW C 31 a m (p.size-a)∈dU C p a m 31:=by
  unfold dU;rw[c,if_neg oO,if_neg oO,if_neg oO,if_pos rfl];exact List.mem_singleton.2 rfl
 have j:=(h.fix a b).1 m oO _ (rR i 32 oO);refine Nat.le_trans j ?_;have k:=tA (C:=C) (num:=31) (at_:=a) (m:=m) (K:=min (p.size-a) 2078-30) (min (p.size-a) 31) 1 oO oO;refine Nat.le_trans k ?_;show an m+5+8* 1+C (a+1) m<=_;rw[g];omega
theorem cj.nh {p:ByteArray} {C:Nat->Nat->Nat} (h:cj p C) (a m n:Nat) (b:a<p.size) (c:m<5) (hn:n<32) (d:bV m n=2):C a m<=an m+C a (modeF m n):=by
 have e:(⟨n,-1,0,false,an m,a,modeF m n⟩:az)∈dU C p a m n:=by
  unfold dU;rw[d,if_neg oO,if_pos rfl];exact List.mem_singleton.2 rfl
 exact(h.fix a b).1 m c _ (rR e 32 hn)
theorem cj.up {p:ByteArray} {C:Nat->Nat->Nat} (h:cj p C) (a:Nat):C a 0<=18* (p.size-a):=by
 have key:∀k a,p.size<=a+k->C a 0<=18* (p.size-a):=by
  intro k
  induction k with
  |zero=>intro a b;rw[h.zero a 0 b];exact Nat.zero_le _
  |succ k c=>
   intro a b;by_cases d:a<p.size
   ·have e:=h.bin a 0 d oO;have f:=c (a+1) oO;omega
   ·rw[h.zero a 0 oO];exact Nat.zero_le _
 exact key p.size a oO
theorem cj.NO {p:ByteArray} {C:Nat->Nat->Nat} (h:cj p C) (a m:Nat) (k:m<5):C a m<=9+C a 0:=by
 by_cases c:a<p.size
 ·have d:=h.nh a 4 14 c oO oO oK;have e1:modeF 4 14=0:=oK;have e2:modeF 1 30=4:=oK;have e3:modeF 2 29=0:=oK;have e4:modeF 3 31=0:=oK;have e:an 4=4:=rfl;have f:an 1=5:=rfl;have g:an 2=5:=rfl;have i:an 3=5:=rfl;rw[e1,e]at d;have j:m=0\/m=1\/m=2\/m=3\/m=4:=oO;rcases j with rfl|rfl|rfl|rfl|rfl
  ·omega
  ·have b:=h.nh a 1 30 c oO oO oK;rw[e2,f]at b;omega
  ·have b:=h.nh a 2 29 c oO oO oK;rw[e3,g]at b;omega
  ·have b:=h.nh a 3 31 c oO oO oK;rw[e4,i]at b;omega
  ·omega
 ·rw[h.zero a m oO];omega
theorem cj.fin {p:ByteArray} {C:Nat->Nat->Nat} (c:p.size<=4096) (h:cj p C) (a m:Nat) (b:m<5):C a m<1073741824:=by
 have d:=h.NO a m b;have e:=h.up a;omega
structure Gk (p:ByteArray) (a m:Nat) (b:az):Prop where
 nm:b.num<32
 s1:-1<=b.sec
 s2:b.sec<32
 rn:a+b.run<=p.size
 lg:0<b.run->b.long=true->31<=b.run
 sr:0<=b.sec->b.run=0
 ln:(cf p a m b).length=b.size
theorem xr:∀m,m<5->∀n,n<32->bV m n=3->an (modeF m n)=5:=of_decide_eq_true oK
def pB (p:ByteArray) (num a m:Nat) (b:az):Prop:=b.run=0\/(b=⟨num,-1,b.run,b.long,(if b.long=true then an m+16 else an m+5)+8* b.run,a+b.run,m⟩/\0<b.run/\a+b.run<=p.size/\(b.long=true->31<=b.run))
theorem y9 {C:Nat->Nat->Nat} {p:ByteArray} {num at_ m:Nat} {b:az} {n:Nat} {lg:Bool} (hb:pB p num at_ m b) (hn:0<n) (c:at_+n<=p.size) (hl:lg=true->31<=n):pB p num at_ m (cQ C num at_ m b n (if lg=true then an m+16 else an m+5) lg):=by
 obtain⟨sz,a⟩:∃sz,sz=(if lg=true then an m+16 else an m+5):=⟨_,rfl⟩;rw[<-a];unfold cQ;split
 ·exact .inr ⟨by show(⟨num,-1,n,lg,sz+8* n,at_+n,m⟩:az)=⟨num,-1,n,lg,(if lg=true then an m+16 else an m+5)+8* n,at_+n,m⟩;rw[<-a],hn,c,hl⟩
 ·exact hb
theorem wN {C:Nat->Nat->Nat} {p:ByteArray} {num at_ m:Nat}:∀k,(at_+30+k<=p.size\/k=0)->pB p num at_ m (ff C num at_ m k)
 |0,_=> .inl rfl
 |k+1,h=>y9 (lg:=true) (wN k oO) oO oO (λ_=>by omega)
theorem vk {C:Nat->Nat->Nat} {p:ByteArray} {num at_ m K:Nat} (a:at_+30+K<=p.size\/K=0):∀k,at_+k<=p.size->pB p num at_ m (dH C num at_ m K k)
 |0,_=>wN K a
 |k+1,h=>y9 (lg:=false) (vk a k oO) oO oO (λe=>by cases e)
theorem p8 {C:Nat->Nat->Nat} {p:ByteArray} {num a m:Nat} (c:a<p.size):pB p num a m (eW C num a m (p.size-a))/\(eW C num a m (p.size-a)).run≠0:=by
 refine⟨vk oO _ oO,?_⟩;unfold eW;obtain⟨k,b⟩:∃k,min (p.size-a) 31=k+1:=⟨min (p.size-a) 31-1,by omega⟩;rw[b];exact nA oO
theorem pB.st {p:ByteArray} {num a m:Nat} {b:az} (h:pB p num a m b) (c:b.run≠0) (hn:num<32):Gk p a m b:=by
 rcases h with h|⟨e,d,f,g⟩
 ·exact absurd h c
 ·have k:b.sec=-1:=by rw[e]
  have i:b.num=num:=by rw[e]
  have j:b.size=(if b.long=true then an m+16 else an m+5)+8* b.run:=by rw[e]
  refine⟨by rw[i];exact hn,by omega,by omega,f,λ_=>g,λh=>by omega,?_⟩;rw[j];unfold cf lT;rw[if_neg oO,if_pos d,List.append_nil];simp only[List.length_append,aL,oq];split
  ·simp only[List.length_append,aL];omega
  ·simp only[aL];omega
theorem Lb {C:Nat->Nat->Nat} {p:ByteArray} {a m n:Nat} (d:a<p.size) (e:m<5) (hn:n<32) {c:az} (b:c∈dU C p a m n):Gk p a m c:=by
 have plain:∀(at_ md:Nat),Gk p a m ⟨n,-1,0,false,an m,at_,md⟩:=λat_ md=>by
  refine⟨hn,by show(-1:Int)<=-1;omega,by show(-1:Int)<32;omega,by show a+0<=_;omega,λh=>(by cases h),λh=>rfl,?_⟩;show(aH n (an m)++(if(0:Int)<=-1 then aH (-1:Int).toNat 5 else[])++[]).length=an m;rw[if_neg oO];simp[aL]
 unfold dU at b;split at b
 ·split at b
  ·rw[List.mem_singleton]at b;subst b;exact plain _ _
  ·cases b
 split at b
 ·rw[List.mem_singleton]at b;subst b;exact plain _ _
 split at b
 ·rename_i f
  have g:=xr m e n hn f;have key:∀k,k<=32->c∈optSK p a m n (modeF m n) k->Gk p a m c:=by
   intro k
   induction k with
   |zero=>intro _ h;cases h
   |succ k i=>
    intro j h;unfold optSK at h;rw[List.mem_append]at h;rcases h with h|h
    ·exact i oO h
    ·unfold mS at h;split at h
     ·rw[List.mem_singleton]at h;subst h;refine⟨hn,by show(-1:Int)<=(k:Int);omega,by show(k:Int)<32;omega,by show a+0<=_;omega,λh=>(by cases h),λh=>rfl,?_⟩;show(aH n (an m)++(if(0:Int)<=(k:Int)then aH (k:Int).toNat 5 else[])++[]).length=an m+an (modeF m n);rw[if_pos oO,g];simp[aL]
     ·cases h
  exact key 32 (Nat.le_refl _) b
 split at b
 ·rw[List.mem_singleton]at b;subst b;exact(p8 d).1.st (p8 d).2 hn
 ·cases b
theorem Et {C:Nat->Nat->Nat} {p:ByteArray} {a m:Nat} (c:a<p.size) (d:m<5) {b:az}:∀k,k<=32->b∈bJ C p a m k->Gk p a m b:=by
 intro k
 induction k with
 |zero=>intro _ h;cases h
 |succ k e=>
  intro f h;unfold bJ at h;rw[List.mem_append]at h;rcases h with h|h
  ·exact e oO h
  ·exact Lb c d oO h
theorem cj.step {p:ByteArray} {C:Nat->Nat->Nat} (i:p.size<=4096) (h:cj p C) (a m:Nat) (g:a<p.size) (e:m<5):∃b,cG C p a m=some b/\b∈bJ C p a m 32/\MX p C a m b:=by
 obtain⟨l,n,o⟩:∃b∈bJ C p a m 32,b.bI C=C a m:=by
  rcases(h.fix a g).2 m e with j|j
  ·have:=h.fin i a m e;omega
  ·exact j
 cases d:cG C p a m with
 |none=>
  unfold cG at d;rw[List.find?_eq_none]at d;exact absurd (by rw[o];simp) (d l n)
 |some b=>
  unfold cG at d;have f:=List.mem_of_find?_eq_some d;have r:=List.find?_some d;have q:b.bI C=C a m:=by simpa using r
  have k:=qt g i e 32 f;have c:=Et g e 32 (Nat.le_refl _) f;exact⟨b,rfl,f,⟨k.1,k.2.1,q.symm,sX 32 f,c.nm,c.s1,c.s2,c.rn,c.lg,c.sr,Nat.le_of_eq c.ln⟩⟩
def pX (p:ByteArray) (C:Nat->Nat->Nat):List Bool:=fZ p (cG C p) (C 0 0) 0 0
theorem xG (A:Option Addr) (n c:Nat) (l:List UInt8) (w:World) (hb:SR vU 0 w A n c l) (hn:n<=4096):
 Calls Tryz.prog 30 #[.slice A n c] w λe w'=>∃C,cj ⟨l.toArray⟩ C/\RT vB false w (pX ⟨l.toArray⟩ C,0) e w':=by
 obtain⟨p,j⟩:∃p:ByteArray,p=⟨l.toArray⟩:=⟨_,rfl⟩;have s:n=p.size:=by rw[hb.hn,j];show l.length=l.toArray.size;simp
 have k:=Lib.hid s;have o:=AA A n c l w hb hn;rw[<-j]at o⊢;have J:=Lib.hid o;clear hb s o j;go_enter Tryz.func30,Tryz.ntmps30
 go_wp2_with(first
  |(go_at_call 80;refine J.out.mono ?_;rintro e z ⟨B,D,cap,hb,C,Q,rfl,hq,r,g,i,t⟩;have q:cj p C:=⟨λa b=>(g a (by rw[k.out];exact b)).1,λa m b=>i a m (by rw[k.out];exact b),hq.S.b⟩;have K:=Lib.hid q;have u:=Lib.hid t;have L:=Lib.hid (JT z B D cap hb _ p C (cG C p) hq (r.vx (Nat.le_refl _) (λa m f _ v d=>(by
   by_cases b:a<n
   ·rw[(g a b).2 m];exact d
   ·exfalso;unfold cG at d;have P:=List.mem_of_find?_eq_some d;have E:0<C a m:=(by have F:=List.find?_some d;have M:f.bI C=C a m:=(by simpa using F);have:=sX 32 P;unfold az.bI at M;omega);rw[i a m oO]at E
    omega))) (λa m b v=>(by obtain⟨f,G,_,H⟩:=q.step (by rw[<-k.out];exact hn) a m b v;exact⟨f,G,H⟩)));clear hq r g i t q)
  |(go_at_call 81;refine L.out.mono ?_;rintro e S ⟨T,rfl,x,y⟩;have N:=Lib.hid x;have O:=Lib.hid y;clear x y))
 go_ret2
 exact⟨C,K.out,RT.mk rfl N.out (u.out.trans (O.out.mono u.out.size))⟩
def oa (A d:Option Addr):Prop:=∀c,d=some c->∃a,A=some a/\c.block=a.block
theorem oa.refl (A:Option Addr):oa A A:=λa h=>⟨a,h,rfl⟩
theorem oa.add (A:Option Addr) (m:Nat):oa A (A.map (λa=>a.add m)):=by
 intro c h;cases A with
 |none=>cases h
 |some a=>injection h with h;subst h;exact⟨a,rfl,aJ _ _⟩
theorem H5 (rb:Nat) (A:Option Addr) (n c m:Nat) (b:List Bool) (w:World) (h:ak w rb (Eb A n c)) (q:w.frozen? ⟨rb,0,none⟩=false) (k:m<=40) (hn:n<=1048576) (hb:SR vB false w A n c b):
 Calls Tryz.prog 218 #[.pointer (some ⟨rb,0,none⟩),.int .i64 m] w λe w'=>e= .returned (.tuple #[.int .i64 (bm b 0 m).1,.int .i64 (bm b 0 m).2])/\
  ((b.length<m/\w'=w)\/(m<=b.length/\∃i l,w'=w.setCell ⟨rb,0,none⟩ (.slice i (n-m) l)/\SR vB false w i (n-m) l (b.drop m)/\oa A i)):=by
 obtain⟨r,s⟩:=sU h;have g:=Lib.hid hb;have a:Hid (n=b.length):=hb.hn;clear h;by_cases p:n<m
 ·have d:Hid (bm b 0 m=(0,10)):=by show _=_;unfold bm;rw[if_pos (by rw[<-a.out];omega)]
  have j:Hid (Calls Tryz.prog 67 #[.slice A n c,.int .i64 0,.int .i64 m] w (λe w'=>e= .returned (.tuple #[.int .i64 (bm b 0 m).1,.int .i64 (bm b 0 m).2])/\w'=w)):=zu A n c m b w k hn hb;clear hb;go_enter Tryz.func218,Tryz.ntmps218;go_wp2_with(go_at_call 67;refine j.out.mono ?_;rintro e w' ⟨rfl,f⟩;rw[f,d.out];clear f)
  go_ret2
  rw[d.out];exact⟨rfl,.inl ⟨by rw[<-a.out];exact p,rfl⟩⟩
 ·have d:Hid (bm b 0 m=(((numF b 0 m:Nat):Int),0)):=by show _=_;unfold bm;rw[if_neg (by rw[<-a.out];omega)]
  have j:Hid (Calls Tryz.prog 67 #[.slice A n c,.int .i64 0,.int .i64 m] w (λe w'=>e= .returned (.tuple #[.int .i64 (bm b 0 m).1,.int .i64 (bm b 0 m).2])/\w'=w)):=zu A n c m b w k hn hb;have hc:=hb.hc;clear hb;go_enter Tryz.func218,Tryz.ntmps218;go_wp2_with(go_at_call 67;refine j.out.mono ?_;rintro e w' ⟨rfl,f⟩;rw[f,d.out];clear f)
  all_goals
   go_ret2
   rw[d.out];refine⟨rfl,.inr ⟨by rw[<-a.out];omega,_,_,rfl,?_,?_⟩⟩
  ·exact g.out.drop oO (.inl oO) oO
  ·exact oa.refl _
  ·rcases Nat.eq_or_lt_of_le (show m<=n by omega)with e|e
   ·exact g.out.drop oO (.inl e.symm) rfl
   ·obtain⟨o,rfl,_⟩:=g.out.rd (by rw[<-a.out];omega);exact g.out.drop oO (.inr ⟨o,rfl,rfl⟩) rfl
  ·exact oa.add _ _
theorem F5 (rb:Nat) (A:Option Addr) (n c m:Nat) (b:List Bool) (w:World) (h:ak w rb (Eb A n c)) (g:w.frozen? ⟨rb,0,none⟩=false) (i:m<=40) (hn:n<=1048576) (hb:SR vB false w A n c b):
 Calls Tryz.prog 182 #[.pointer (some ⟨rb,0,none⟩),.int .i64 m] w λe w'=>e= .returned (.tuple #[.int .i64 (bm b 0 m).1,.int .i64 (bm b 0 m).2])/\
  ((b.length<m/\w'=w)\/(m<=b.length/\∃a d,w'=w.setCell ⟨rb,0,none⟩ (.slice a (n-m) d)/\SR vB false w a (n-m) d (b.drop m)/\oa A a)):=by
 have k:Hid (Calls Tryz.prog 218 #[.pointer (some ⟨rb,0,none⟩),.int .i64 m] w _):=H5 rb A n c m b w h g i hn hb;obtain⟨l,o⟩:=sU h;clear h hb;go_enter Tryz.func182,Tryz.ntmps182;go_wp2_with(go_at_call 218;refine k.out.mono ?_;rintro e w' ⟨rfl,f⟩;have j:=Lib.hid f;clear f)
 go_ret2
 exact⟨rfl,j.out⟩
def Tag (w:World) (b:Nat) (a:TypeId):Prop:=∃c:Array Value,w.heap[b]?=some (.cells c a (0,0))
theorem Tag.ne {w:World} {a b:Nat} {f u:TypeId} (d:Tag w a f) (c:Tag w b u) (i:f≠u):a≠b:=by
 intro e;subst e;obtain⟨c1,d⟩:=d;obtain⟨j,c⟩:=c;rw[d]at c;injection c with c;injection c with _ g _;exact i g
theorem Tag.below {w W:World} {b:Nat} {a:TypeId} (h:Tag w b a) (d:Below w.heap.size w W):Tag W b a:=by
 obtain⟨c,h⟩:=h;exact⟨c,(d.block _ (ar h)).trans h⟩
theorem aa.tag {w:World} {b:Nat} {c:Array Value} {a:TypeId} (h:aa w b c a):Tag w b a:=⟨c,h⟩
theorem Tag.eT {w:World} {b:Nat} {d:TypeId} (h:Tag w b d) (a:Addr) (e:b≠a.block) (u:Value):Tag (w.setCell a u) b d:=by
 obtain⟨c,h⟩:=h;exact⟨c,(Below.heap_setCell _ _ _ _ e).trans h⟩
theorem Tag.grown {w W:World} {b:Nat} {a:TypeId} {row:Option Nat} (h:Tag w b a) (hg:w.grownBy W row) (d:some b≠row):Tag W b a:=by
 obtain⟨c,h⟩:=h;exact⟨c,(hg.block _ (ar h) d).trans h⟩
theorem qx {w:World} {base:Nat} {e:TypeId} {v:Value} {n q:Nat} {xs:List Value} (h:w.ownsRow base e 1 v n xs) (hq:v.ownBlock=some q):Tag w q e:=by
 rcases h.2 with⟨rfl,_⟩|⟨g,cap,a,rfl,_,hg,_⟩
 ·cases hq
 ·simp only[Value.ownBlock,Option.some.injEq]at hq;subst hq;exact⟨a,hg⟩
theorem SR.eT {α:Type} {f:α->Value} {d:α} {w:World} {A:Option Addr} {n c:Nat} {l:List α} (h:SR f d w A n c l) (a:Addr) (i:∀g,A=some g->g.block≠a.block) (u:Value):SR f d (w.setCell a u) A n c l:=by
 refine⟨h.hn,h.hc,h.hm,λhn=>?_⟩;obtain⟨g,e,k,m⟩:=h.rd hn;have o:=i g e;refine⟨g,e,by simpa using k,λj p=>?_⟩;rw[World.cell?_setCell_other w _ _ _ (λe2=>o (by rw[e2,aJ]))];exact m j p
theorem SR.grown {α:Type} {f:α->Value} {d:α} {w W:World} {A:Option Addr} {n c:Nat} {l:List α} {row:Option Nat} (h:SR f d w A n c l) (hg:w.grownBy W row) (i:∀a,A=some a->some a.block≠row):SR f d W A n c l:=by
 refine⟨h.hn,h.hc,h.hm,λhn=>?_⟩;obtain⟨a,e,g,k⟩:=h.rd hn;refine⟨a,e,Nat.lt_of_lt_of_le g hg.size,λj m=>?_⟩;rw[hg.cell_far (a.add j) (by rw[aJ];exact g) (by rw[aJ];exact i a e)];exact k j m
structure DE (n:Nat) (w wr:World) (db rb:Nat) (b0 b:List Bool) (mode:Nat) (out:List UInt8):Prop where
 B:Below n w wr
 D:∃a d c0 e co,aa wr db a 187/\a.size=484/\a[0]?=some (.slice d b0.length c0)/\a[1]?=some (.pointer (some ⟨rb,0,none⟩))/\(∀i v,eg[i]?=some v->a[2+i]?=some v)/\a[482]?=some (.int .i64 (mode:Int))/\a[483]?=some (.slice e out.length co)/\
  SR vB false w d b0.length c0 b0/\wr.ownsRow n 5 1 (.slice e out.length co) out.length (out.map vU)
 R:∃A c,aa wr rb #[.slice A b.length c,.bool true] 225/\SR vB false wr A b.length c b/\∀f,A=some f->Tag wr f.block 4
 n1:n<=db/\n<=rb
 n2:n=w.heap.size
 md:mode<5
 lb:b.length<=b0.length/\b0.length<=1048576
section
variable {n : Nat} {w wr W : World} {db rb : Nat} {b0 b : List Bool} {mode : Nat} {out : List UInt8}
theorem DE.ge (h:DE n w wr db rb b0 b mode out):n<=wr.heap.size:=by rw[h.n2];exact h.B.size
theorem DE.below (h:DE n w wr db rb b0 b mode out) (a:Below wr.heap.size wr W):DE n w W db rb b0 b mode out:=by
 obtain⟨u,d,c0,f,co,g,i,j,k,l,m,o,p,q⟩:=h.D;obtain⟨A,c,r,s,k3⟩:=h.R;exact⟨h.B.trans (a.mono h.ge),⟨u,d,c0,f,co,g.below a,i,j,k,l,m,o,p,au q a⟩,⟨A,c,r.below a,s.below a,λt e=>(k3 t e).below a⟩,h.n1,h.n2,h.md,h.lb⟩
theorem DE.ne (h:DE n w wr db rb b0 b mode out):db≠rb:=by
 obtain⟨g,e,c0,f,co,a,_⟩:=h.D;obtain⟨A,c,d,_⟩:=h.R;exact a.tag.ne d.tag oD
theorem lZ {base:Nat} {e:TypeId} {v:Value} {k:Nat} {xs:List Value} (h:wr.ownsRow base e 1 v k xs) (a:Addr) {d:TypeId} (j:Tag wr a.block d) (o:d≠e) (u:Value):(wr.setCell a u).ownsRow base e 1 v k xs:=by
 refine⟨h.1,?_⟩;rcases h.2 with c|⟨g,cap,i,l,c,f,m⟩
 ·exact .inl c
 ·refine .inr ⟨g,cap,i,l,c,(Below.heap_setCell _ _ _ _ ?_).trans f,m⟩;exact(Tag.ne j ⟨i,f⟩ o).symm
theorem DE.take (h:DE n w wr db rb b0 b mode out) {m:Nat} {g:Option Addr} {k:Nat} (J:m<=b.length) (hs:SR vB false wr g (b.length-m) k (b.drop m)) {A:Option Addr} {c:Nat} (a:aa wr rb #[.slice A b.length c,.bool true] 225) (F:oa A g):
 DE n w (wr.setCell ⟨rb,0,none⟩ (.slice g (b.length-m) k)) db rb b0 (b.drop m) mode out:=by
 obtain⟨G,p,c0,q,co,r,s,t,u,v,y,z,B,C⟩:=h.D;obtain⟨D,c1,d,K,k3⟩:=h.R;have H:=h.ne;have E:D=A:=by
  unfold aa at d a;rw[d]at a;injection a with a;injection a with a _ _;have:=congrArg (λx:Array Value=>x[0]?) a;simp only[List.getElem?_toArray,List.getElem?_cons_zero,Option.some.injEq,Value.slice.injEq]at this;exact this.1
 have l:∀j,g=some j->Tag wr j.block 4:=λj e=>by
  obtain⟨f,e1,e2⟩:=F j e;rw[e2];exact k3 f (by rw[E];exact e1)
 have o:(b.drop m).length=b.length-m:=List.length_drop;refine⟨h.B.setCell h.n1.2 _,⟨G,p,c0,q,co,(Below.heap_setCell _ _ _ _ H).trans r,s,t,u,v,y,z,B,lZ C _ d.tag oD _⟩,⟨g,k,?_,?_,λf e=>?_⟩,h.n1,h.n2,h.md,by rw[o];have:=h.lb;omega⟩
 ·rw[o];exact d.eT (i:=0) _
 ·rw[o];exact hs.eT _ (λf e=>(l f e).ne d.tag oD) _
 ·exact(l f e).eT _ ((l f e).ne d.tag oD) _
theorem DE.No (h:DE n w wr db rb b0 b mode out) (a:Nat) (j:a<5):DE n w (wr.setCell ⟨db,482,none⟩ (.int .i64 (a:Int))) db rb b0 b a out:=by
 obtain⟨y,k,c0,l,co,d,m,o,p,q,B,r,s,t⟩:=h.D;obtain⟨A,c,u,x,k3⟩:=h.R;have z:=h.ne
 refine⟨h.B.setCell h.n1.1 _,⟨y.setIfInBounds 482 (.int .i64 (a:Int)),k,c0,l,co,d.eT _,by simp[m],by rw[Array.getElem?_setIfInBounds_ne oO];exact o,by rw[Array.getElem?_setIfInBounds_ne oO];exact p,λi v g=>?_,by rw[Array.getElem?_setIfInBounds_self_of_lt oO],by rw[Array.getElem?_setIfInBounds_ne oO];exact r,s,lZ t _ d.tag oD _⟩,
  ⟨A,c,(Below.heap_setCell _ _ _ _ (Ne.symm z)).trans u,x.eT _ (λf e=>(k3 f e).ne d.tag oD) _,λf e=>(k3 f e).eT _ ((k3 f e).ne d.tag oD) _⟩,h.n1,h.n2,j,h.lb⟩
 have C:i<480:=by rw[<-ni];exact(Array.getElem?_eq_some_iff.1 g).1
 rw[Array.getElem?_setIfInBounds_ne oO];exact q i v g
theorem DE.grow (h:DE n w wr db rb b0 b mode out) {d:Option Addr} {co:Nat} (r:wr.ownsRow n 5 1 (.slice d out.length co) out.length (out.map vU)) {W:World} (hg:wr.grownBy W (Value.slice d out.length co).ownBlock) {j:Option Addr} {k:Nat} {f:List UInt8}
 (H:W.ownsRow n 5 1 (.slice j f.length k) f.length (f.map vU)):aa W db (Classical.choose h.D) 187/\DE n w (W.setCell ⟨db,483,none⟩ (.slice j f.length k)) db rb b0 b mode f:=by
 have M:=Classical.choose_spec h.D;generalize Classical.choose h.D=t at*;obtain⟨x,c0,Q,S,l,y,z,B,C,D,N,E,O⟩:=M;obtain⟨A,c,m,F,k3⟩:=h.R;have J:=h.ne;have o:∀q,(Value.slice d out.length co).ownBlock=some q->Tag wr q 5:=λq hq=>qx r hq;have K:some db≠(Value.slice d out.length co).ownBlock:=λe=>(o db e.symm).ne l.tag oD rfl;have L:some rb≠(Value.slice d out.length co).ownBlock:=λe=>(o rb e.symm).ne m.tag oD rfl;have u:∀a,A=some a->some a.block≠(Value.slice d out.length co).ownBlock:=λa e e2=>(o a.block e2.symm).ne (k3 a e) oD rfl;have g:aa W db t 187:=(hg.block _ (ar l) K).trans l;have G:aa W rb #[.slice A b.length c,.bool true] 225:=(hg.block _ (ar m) L).trans m;have p:∀a,A=some a->Tag W a.block 4:=λa e=>(k3 a e).grown hg (u a e)
 refine⟨g,(h.B.grown hg h.ge (λq hq=>(r.lt q hq).1)).setCell h.n1.1 _,⟨t.setIfInBounds 483 (.slice j f.length k),x,c0,j,k,g.eT _,by simp[y],by rw[Array.getElem?_setIfInBounds_ne oO];exact z,by rw[Array.getElem?_setIfInBounds_ne oO];exact B,λi v s=>?_,by rw[Array.getElem?_setIfInBounds_ne oO];exact D,by rw[Array.getElem?_setIfInBounds_self_of_lt oO],E,lZ H _ g.tag oD _⟩,
  ⟨A,c,(Below.heap_setCell _ _ _ _ (Ne.symm J)).trans G,(F.grown hg u).eT _ (λa e=>(p a e).ne g.tag oD) _,λa e=>(p a e).eT _ ((p a e).ne g.tag oD) _⟩,h.n1,h.n2,h.md,h.lb⟩
 have P:i<480:=by rw[<-ni];exact(Array.getElem?_eq_some_iff.1 s).1
 rw[Array.getElem?_setIfInBounds_ne oO];exact C i v s
end
theorem rr:Tryz.prog.underlying 26=some (.slice (Tryz.prog.elem 26)):=oK
theorem xM (w:World):(sizeOf (Tryz.prog.elem 26)).run Tryz.prog w= .ok 1 w:=oK
theorem uJ {a:Act} {d:Oper} {W:World} {x i:Operand} (e:d.op= .slice 26 x (some i) none none) {A:Option Addr} {n c:Nat} {l:List Bool} (f:a.eval x= .slice A n c) {I:Int} (g:a.eval i= .int .i64 I) (k:Nat) (j:I=(k:Int)) (p:k<=n):
 (execOp a.eval d).run Tryz.prog W= .ok (.value (.slice (if c=k then A else A.map (λm=>m.add k)) (n-k) (c-k))) W:=by
 subst j;have b:=run_slice_l (P:=Tryz.prog) W 26 A n c rr .i64 (k:Int) oO oO;rw[xM]at b;simp only[Result.andThen_ok,sliced,Int.toNat_natCast,Nat.mul_one]at b;have o:=run_sliceAt_slice (P:=Tryz.prog) W 26 (.slice A n c) (some (.int .i64 (k:Int))) none none rr;unfold execOp;simp only[e,f,g,Option.map_some,Option.map_none,Sem.run_bind,Sem.run_pure,Result.andThen_ok,o,b]
theorem SR.from {w:World} {A:Option Addr} {n c:Nat} {l:List Bool} (h:SR vB false w A n c l) (k:Nat) (a:k<=n):SR vB false w (if c=k then A else A.map (λb=>b.add k)) (n-k) (c-k) (l.drop k):=by
 have hc:=h.hc;rcases Nat.eq_or_lt_of_le a with e|e
 ·exact h.drop a (.inl e.symm) rfl
 ·obtain⟨b,e1,_⟩:=h.rd (by rw[<-h.hn];omega);rw[if_neg oO];exact h.drop a (.inr ⟨b,e1,by rw[e1];rfl⟩) rfl
def gX (b:List Bool):Bool:=decide (b.length<12)&&b.all id
theorem FF {b:List Bool} {k:Nat} (a:k<b.length) (h:b.getD k false=false):gX b=false:=by
 unfold gX;rw[all_false (d:=false) a h,Bool.and_false]
theorem Ie {b:List Bool} (hl:b.length<12) (h:∀j,j<b.length->b.getD j false=true):gX b=true:=by
 unfold gX;rw[decide_eq_true hl,all_true (d:=false) h];rfl
theorem Iz (n:Nat) (w wr:World) (db q:Nat) (b0 b:List Bool) (ac:Nat) (out:List UInt8) (h:DE n w wr db q b0 b ac out) (J:b0.drop (b0.length-b.length)=b):
 Calls Tryz.prog 135 #[.pointer (some ⟨db,0,none⟩)] wr λe w'=>e= .returned (.bool (gX b))/\Below wr.heap.size wr w':=by
 obtain⟨a2,f,c0,am,co,g,P,E,F,Q,S,T,G,r⟩:=h.D;obtain⟨A,c,H,U,k3⟩:=h.R;have K:=h.lb.1;have X:=h.lb.2;have ap:wr.cell? ⟨db,1,none⟩=some (.pointer (some ⟨q,0,none⟩)):=g.cell 1 _ F;have D:Hid (Calls Tryz.prog 181 #[.pointer (some ⟨q,0,none⟩)] wr λe w'=>e= .returned (.int .i64 ((b.length:Nat):Int))/\w'=wr):=JX q A b.length c wr H.cells;obtain⟨lb,u⟩:∃lb,lb=b.length:=⟨_,rfl⟩;obtain⟨a,m⟩:∃a,a=b0.length:=⟨_,rfl⟩;have i:=Lib.hid u;have a3:=Lib.hid m;have L:Hid (b0.drop (a-lb)=b):=by show _=_;rw[m,u];exact J
 have d:Hid (∀W,af wr W->W.cell? ⟨db,0,none⟩=some (.slice f a c0)):=λW V=>by rw[m];exact(g.below V).cell 0 _ E
 have z:Hid (SR vB false wr f a c0 b0):=by
  show SR _ _ _ _ _ _ _;rw[m];have hB:=h.B;rw[h.n2]at hB;exact G.below hB
 rw[<-u]at D K;rw[<-m]at K X;clear h g P E F Q S T G r H U k3 u m J;by_cases B:lb<12
 ·have a4:IntKind.i64.wrap ((a:Int)-(lb:Int))=((a-lb:Nat):Int):=by rw[aF _ oO oO];omega
  go_enter Tryz.func135,Tryz.ntmps135;go_wp2_with(go_at_call 181;refine D.out.mono ?_;rintro e w' ⟨rfl,o⟩;rw[o];clear o)
  refine yO (af wr) [1,2,3,4,5,6,7,8,9,10,11,14,0,12,0,13] (ai (Below.refl _ _)) ?_;refine zO d.out ?_;refine zO d.out ?_;refine zO d.out ?_;refine zO d.out ?_;refine zO d.out ?_;refine zO d.out ?_;refine zO d.out ?_;refine zO d.out ?_;refine zO d.out ?_;refine zO d.out ?_;refine zO d.out ?_;refine zO d.out ?_;refine' zQ rfl (uJ (l:=b0) rfl rfl rfl (a-lb) rfl oO) (ai (Below.refl _ _)) ?_;have Y:Hid (SR vB false wr.drew (if c0=a-lb then f else f.map (λs=>s.add (a-lb))) lb (c0-(a-lb)) b):=by
   have r:=(z.out.from (a-lb) oO).below (ai (Below.refl _ _));rw[L.out,show a-(a-lb)=lb from by omega]at r;exact r
  rw[show a-(a-lb)=lb from by omega];generalize(if c0=a-lb then f else f.map (λs=>s.add (a-lb)))=av at*;generalize c0-(a-lb)=c1 at*;have M:Hid (af wr wr.drew):=ai (Below.refl _ _);clear d z;generalize wr.drew=a0 at*;refine zU ?_;refine ag ?_;go_wp2;go_loop [26] (λv=>∃k:Nat,k<=lb/\v= .int .i64 k/\Hid (∀j,j<k->b.getD j false=true)) (λv=>lb-(intOf v).toNat)
  case atStart=>exact⟨0,Nat.zero_le _,rfl,λj x=>by omega⟩
  case round=>
   obtain⟨k,a1,rfl,t⟩:=hrel;by_cases N:k<lb
   ·obtain⟨s,rfl,_,O⟩:=Y.out.rd (by rw[<-i.out];omega);have a5:=O k (by rw[<-i.out];exact N);have p:Hid (b.getD k false=false->gX b=false):=FF (by rw[<-i.out];exact N);have C:Hid (b.getD k false=true->∀j,j<k+1->b.getD j false=true):=by
     show _->_;intro h j x;rcases Nat.lt_or_ge j k with g|g
     ·exact t.out j g
     ·obtain rfl:j=k:=oO;exact h
    clear O t;generalize b.getD k false=y at*;cases y with
    |true=>
     have ad:=Lib.hid (C.out rfl);clear C p;go_wp2;exact⟨⟨k+1,by omega,by go_num,ad.out⟩,by simp[intOf];omega⟩
    |false=>
     have al:=Lib.hid (p.out rfl);clear C p;go_wp2;go_ret;exact⟨by rw[al.out];rfl,M.out⟩
   ·have Z:k=lb:=oO;have ab:Hid (gX b=true):=by
     refine Ie (by rw[<-i.out];exact B) (λj x=>t.out j ?_);rw[Z,i.out];exact x
    clear t;go_wp2;go_ret;exact⟨by rw[ab.out];rfl,M.out⟩
 ·have p:Hid (gX b=false):=by
   show _=_;unfold gX;rw[decide_eq_false (by rw[<-i.out];exact B)];rfl
  have a6:12<=lb:=oO;clear B d z L;go_enter Tryz.func135,Tryz.ntmps135;go_wp2_with(go_at_call 181;refine D.out.mono ?_;rintro e w' ⟨rfl,o⟩;rw[o];clear o)
  go_ret;exact⟨by rw[p.out];rfl,Below.refl _ _⟩
end
end Go.Proofs.YtmnlkganmgcpbaaGreatDoor
