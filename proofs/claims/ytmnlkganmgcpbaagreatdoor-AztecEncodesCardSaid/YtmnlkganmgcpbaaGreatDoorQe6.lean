import Derived.Test.YtmnlkganmgcpbaaGreatDoorQe5
import Derived.Lib.AppendStr
set_option maxRecDepth 100000
set_option maxHeartbeats 4000000
set_option linter.unusedVariables false
set_option linter.unusedSectionVars false
set_option linter.unusedSimpArgs false
namespace Go.Proofs.YtmnlkganmgcpbaaGreatDoor
section
open Go.RowKit Go.WideMaps Go.Maps
def byF (p:ByteArray) (a:Nat):Nat->List Bool
 |0=>[]
 |k+1=>byF p a k++aH (p.data.toList.getD (a+k) 0).toNat 8
def gj (p:ByteArray) (a:Nat) (b:an):List Bool:=if 0<b.run then(if b.long=true then aH 0 5++aH (b.run-31) 11 else aH b.run 5)++byF p a b.run else[]
def bB (p:ByteArray) (a m:Nat) (b:an):List Bool:=aH b.num (aj m)++(if 0<=b.sec then aH b.sec.toNat 5 else[])++gj p a b
def fB (p:ByteArray) (c:Nat->Nat->Option an):Nat->Nat->Nat->List Bool
 |0,_,_=>[]
 |f+1,a,m=>if a<p.size then(match c a m with|some b=>bB p a m b++fB p c f b.at_ b.mode|none=>[])else[]
structure KU (p:ByteArray) (C:Nat->Nat->Nat) (a m:Nat) (b:an):Prop where
 le:b.at_<=p.size
 md:b.mode<5
 eq:C a m=b.aG C
 ps:0<b.size
 nm:b.num<32
 s1:-1<=b.sec
 s2:b.sec<32
 rn:a+b.run<=p.size
 lg:0<b.run->b.long=true->31<=b.run
 sr:0<=b.sec->b.run=0
 ln:(bB p a m b).length<=b.size
theorem mR (n:Nat) (w0 w:World) (a:Nat) (b:List Bool) (v k:Nat) (V K:Int) (c:V=(v:Int)) (d:K=(k:Int)) (h:BO n w0 w a b) (f:v<=1000000000000) (g:k<=62) (hl:b.length<=4000000000):
 Calls Tryz.prog 131 #[.int .i64 V,.int .i64 K,.pointer (some ⟨a,0,none⟩)] w λe w'=>e= .returned (.tuple #[])/\BO n w0 w' a (b++aH v k)/\gQ w w':=by
 subst c d;exact CM n w0 w a b v k h f g hl
theorem sT {a:Act} {c:Oper} {W:World} {x i:Operand} (f:c.op= .index 9 x i) {p:ByteArray} (g:a.eval x= .string p) {I:Int} (j:a.eval i= .int .i64 I) (k:Nat) (l:I=(k:Int)) (d:k<p.size):
 (execOp a.eval c).run Tryz.prog W= .ok (.value (.int .u8 ((p.data.toList.getD k 0).toNat:Int))) W:=by
 subst l;have b:=run_index_string (P:=Tryz.prog) W 9 p .i64 (k:Int) Tryz.underlying9;rw[dif_pos oO]at b
 have e:p[(k:Int).toNat]'(by simpa using d)=p.data.toList.getD k 0:=by
  have hl:k<p.data.toList.length:=by simpa using d
  rw[List.getD,List.getElem?_eq_getElem hl];rfl
 rw[e]at b;unfold execOp;simp only[f,g,j,b,Sem.run_bind,Sem.run_pure,Result.andThen_ok]
theorem oW (p:ByteArray) (a:Nat):∀k,(byF p a k).length=8* k
 |0=>rfl
 |k+1=>by unfold byF;rw[List.length_append,oW p a k,bm];omega
theorem Ad {a:Act} {b:Oper} {W:World} {hb l:Nat} {c:Nat->Nat->Option an} (h:cU W hb l c) {m x:Operand} (d:b.op= .lookup 173 m x false) (e:a.eval m= .map (some hb)) (at_ i:Nat) (f:a.eval x= .agg #[.int .i64 (at_:Int),.int .i64 (i:Int)])
 (g:at_<=4096) (j:i<5) (y:an) (k:c at_ i=some y):(execOp a.eval b).run Tryz.prog W= .ok (.value y.val) W:=by
 have n:=h.lookup at_ i y g j k;unfold execOp;simp only[d,e,f,n,Sem.run_bind,Sem.run_pure,Result.andThen_ok]
theorem eJ {e:Array Oper} {S:World->Prop} {K:Act->World->Prop} {r:List (Bool×Nat×Oper)} {k:Nat} {d:Oper} {a:Act} {W:World} (b:TypeId) (m:Region.wanted d (yielded e a.tmps)=true) (g:d.op= .alloc b) (c:Array Value) (f:(Tryz.prog.info? b).map (·.zero)=some (some (.agg c)))
 (j:S (W.alloc (.cells c b))) (l:bG Tryz.prog e S K r (a.put d.dst (.pointer (some ⟨W.heap.size,0,none⟩))) (W.alloc (.cells c b))):bG Tryz.prog e S K ((true,k,d)::r) a W:=by
 cases hq:Tryz.prog.info? b with
 |none=>simp[hq]at f
 |some i=>
  have n:i.zero=some (.agg c):=by simpa[hq]using f
  have o:(Instr.alloc b true (.tuple #[])).run Tryz.prog W= .ok (.pointer (some ⟨W.heap.size,0,none⟩)) (W.alloc (.cells c b)):=by
   simp[Instr.alloc,zeroValue,typeInfo,hq,n,newVar,newRow,Value.cells]
  refine ie m ?_ j l;unfold execOp;simp only[g,Sem.run_bind,Sem.run_pure,Result.andThen_ok,o]
theorem Bm {i:Array Oper} {S:World->Prop} {K:Act->World->Prop} {r:List (Bool×Nat×Oper)} {k:Nat} {f:Oper} {a:Act} {W:World} (g:TypeId) (u:Region.wanted f (yielded i a.tmps)=true) (p x:Operand) (l:f.op= .store g p x) (c:TypeId) (d:Array Value) (b:List Value)
 (m:a.eval p= .pointer (some ⟨W.heap.size,0,none⟩)) (n:a.eval x= .agg b.toArray) (o:(Tryz.prog.info? g).map (·.size)=some b.length) (w:b.length=d.size) (q:∀v∈b,v.oneCell'=true)
 (s:S (W.alloc (.cells b.toArray c))) (t:bG Tryz.prog i S K r (a.put f.dst undef) (W.alloc (.cells b.toArray c))):bG Tryz.prog i S K ((true,k,f)::r) a (W.alloc (.cells d c)):=by
 have j:=jD (P:=Tryz.prog) (W.alloc (.cells d c)) c g W.heap.size 0 d b (heap_alloc_new _ _) o oO q;have e:(splice d.toList 0 b).toArray=b.toArray:=by
  unfold splice;rw[List.take_zero,List.nil_append,List.drop_eq_nil_of_le (by simp[w]),List.append_nil]
 rw[e,World.setRow_alloc_new]at j;refine .inl ⟨u,?_⟩;unfold execOp;simp only[l,m,n,Instr.storeAt,Instr.sureAddr,Sem.run_bind,Sem.run_pure,Result.andThen_ok,j];exact⟨s,t⟩
theorem BO.setRow {n:Nat} {w wr:World} {f b:Nat} {i:List Bool} {q:Array Value} (h:BO n w wr f i) (hn:n<=b) (a:aa wr b q 179) (c':Array Value):BO n w (wr.setRow b c') f i:=by
 obtain⟨A,c,d,j⟩:=h.X;refine⟨below_setRow h.B hn _,⟨A,c,d.other _ ?_,j.1,?_⟩,h.n1,by rw[size_setRow];exact h.n2⟩
 ·intro e;subst e;unfold aa at d a;rw[d]at a;injection a with a;injection a with _ e _;exact absurd e oD
 ·rcases j.2 with l|⟨g,cap,r,m,o,k,p⟩
  ·exact .inl l
  ·refine .inr ⟨g,cap,r,m,o,(setRow_other _ _ _ _ ?_).trans k,p⟩;intro e;subst e;unfold aa at a;rw[k]at a;injection a with a;injection a with _ e _;exact absurd e oD
theorem oh {W:World} {b:Nat} {d:an} (h:ai W b d.aC):∀j v,[Value.int .i64 (d.at_:Int),.int .i64 (d.mode:Int)][j]?=some v->W.cell? ((⟨b,5,none⟩:Addr).add j)=some v:=by
 intro j v a;have c:=qX h;rw[add_plain]
 match j,a with
 |0,a=>simp only[List.getElem?_cons_zero,Option.some.injEq]at a;rw[<-a];exact c.2.2.2.2.2.1
 |1,a=>simp only[List.getElem?_cons_succ,List.getElem?_cons_zero,Option.some.injEq]at a;rw[<-a];exact c.2.2.2.2.2.2
 |j+2,a=>simp at a
def Cq (W:World) (c:Nat) (v:Value):Nat:=match v with
 |.pointer (some b)=>(match W.cell? ⟨b.block,0,none⟩,W.cell? ⟨b.block,1,none⟩with|some (.int _ a),some (.int _ m)=>jj W c a.toNat m.toNat|_,_=>0)
 |_=>0
theorem Ez {W:World} {e c cap hb b a m:Nat} {p:ByteArray} {C:Nat->Nat->Nat} (h:SW W e c cap hb p C) (d:aa W b #[.int .i64 (a:Int),.int .i64 (m:Int)] 179) (f:a<=p.size) (g:m<5):Cq W c (.pointer (some ⟨b,0,none⟩))=C a m:=by
 have i:W.cell? ⟨b,0,none⟩=some (.int .i64 (a:Int)):=d.cell 0 _ rfl;have j:W.cell? ⟨b,1,none⟩=some (.int .i64 (m:Int)):=d.cell 1 _ rfl;unfold Cq;simp only[i,j,Int.toNat_natCast];unfold jj;rw[h.cz a m f g];simp
theorem Ix (w:World) (H ap cap hb cb:Nat) (p:ByteArray) (C:Nat->Nat->Nat) (A:Nat->Nat->Option an) (N:SQ w H ap cap hb p C) (cq:cU w hb cb A)
 (c3:∀a m,a<p.size->m<5->∃b,A a m=some b/\KU p C a m b):
 Calls Tryz.prog 81 #[.pointer (some ⟨H,0,none⟩)] w λe w'=>∃v,e= .returned v/\SG vB false w' v (fB p A (C 0 0) 0 0)/\Below w.heap.size w w':=by
 obtain⟨d2,d3,d8,d9,ea⟩:=info_parts fe;have e9:=N.S.hp;have O:Hid (∀W,Below w.heap.size w W->SQ W H ap cap hb p C/\cU W hb cb A):=λW n=>⟨N.below n,cq.below n⟩;have ec:=Lib.hid c3;have d4:=N.S.cc;have b5:=N.S.cz 0 0 oO oO;have bv:Hid (C 0 0<=1073741824):=N.S.b 0 0;have f4:=N.S.hc;simp only[Nat.zero_mul,Nat.zero_add]at b5;obtain⟨c0,ce⟩:∃c0,c0=C 0 0:=⟨_,rfl⟩;rw[<-ce]at b5 bv⊢;have c4:=Lib.hid ce;clear N cq c3 ce;go_enter Tryz.func81,Tryz.ntmps81
 go_wp2_with(first
  |(at_make;refine wpList_make_own _ rfl _ _ _ rfl w.heap.size 4 d2 _ 1 Tryz.underlying26 d3 d8 d9 .i64 .i64 _ c0 rfl rfl rfl (by have:=bv.out;rw[ea];omega) (by have:=bv.out;unfold maxLen;omega) (Nat.le_refl _) ?_;intro w1 dn hg;have K:=Lib.hid dn;have av:Hid (Below w.heap.size w w1):=(Below.refl _ _).grown hg (Nat.le_refl _) (λq hq=>by cases hq);clear dn hg)
  |((with_reducible show wpList _ _ _ (⟨_,Op.alloc 179,_,_,_,_⟩::_) _ _);refine aU rfl 179 rfl _ jl ?_)
  |((with_reducible show wpList _ _ _ (⟨_,Op.store 179 _ _,_,_,_,_⟩::_) _ _);refine bg rfl 179 _ _ rfl 179 _ [_,_] rfl rfl dq rfl (fl _ _) ?_))
 simp only[yQ,yU,yX,yY];have ds:Hid (BO w.heap.size w ((w1.alloc (.cells #[.slice (some ⟨w.heap.size,0,none⟩) 0 c0] 26)).alloc (.cells #[.int .i64 0,.int .i64 0] 179)) w1.heap.size []):=by
  refine BO.below (wr:=w1.alloc (.cells #[.slice (some ⟨w.heap.size,0,none⟩) 0 c0] 26)) ⟨av.out.alloc av.out.size _,⟨_,c0,aa.new _ _ _ _ rfl,K.out.alloc _⟩,av.out.size,?_⟩ (ar _ _);have:=av.out.size;simp;omega
 have dx:Hid (aa ((w1.alloc (.cells #[.slice (some ⟨w.heap.size,0,none⟩) 0 c0] 26)).alloc (.cells #[.int .i64 0,.int .i64 0] 179)) (w1.alloc (.cells #[.slice (some ⟨w.heap.size,0,none⟩) 0 c0] 26)).heap.size #[.int .i64 0,.int .i64 0] 179):=aa.new _ _ _ _ rfl;have dy:Hid (w.heap.size<=(w1.alloc (.cells #[.slice (some ⟨w.heap.size,0,none⟩) 0 c0] 26)).heap.size):=by have:=av.out.size;show _<=_;simp;omega
 clear K av d4 b5;generalize(w1.alloc (.cells #[.slice (some ⟨w.heap.size,0,none⟩) 0 c0] 26)).alloc (.cells #[.int .i64 0,.int .i64 0] 179)=fb at*;generalize(w1.alloc (.cells #[.slice (some ⟨w.heap.size,0,none⟩) 0 c0] 26)).heap.size=ed at*;generalize w1.heap.size=k at*
 trace_state
 go_loopw [5] (λb6 wr=>∃(c a m f:Nat) (g:List Bool),b6= .pointer (some ⟨c,0,none⟩)/\a<=p.size/\m<5/\w.heap.size<=c/\Hid (aa wr c #[.int .i64 (a:Int),.int .i64 (m:Int)] 179)/\Hid (BO w.heap.size w wr k g)/\Hid (g++fB p A f a m=fB p A c0 0 0)/\Hid (C a m<=f)/\Hid (g.length+C a m<=c0)) (λb6 wr=>Cq wr ap b6)
 case atStart=>exact⟨ed,0,0,c0,[],rfl,Nat.zero_le _,by omega,dy.out,dx.out,ds.out,rfl,by show _<=_;rw[c4.out];exact Nat.le_refl _,by show _<=_;rw[c4.out];simp⟩
 case round=>
  clear ds dx dy;obtain⟨c,a,m,f,g,rfl,d5,b7,bx,hF,r,bi,b8,bo⟩:=hrel;have a3:Hid (∀W,af wr W->W.cell? ⟨H,0,none⟩=some (.string p)/\W.cell? ⟨H,482,none⟩=some (.map (some hb))/\W.cell? ⟨c,0,none⟩=some (.int .i64 (a:Int))/\W.cell? ⟨c,1,none⟩=some (.int .i64 (m:Int))):=by
   show∀W,_;intro W n;have t:=(O.out W (r.out.B.trans (n.mono r.out.n2))).1.S;have cr:=hF.out.below n;exact⟨t.c0,t.cm,cr.cell 0 _ rfl,cr.cell 1 _ rfl⟩
  by_cases cg:a<p.size
  ·obtain⟨b,b9,B⟩:=ec.out a m cg b7;have b1:=Lib.hid B;have ef:=Lib.hid b9;have c5:Hid (Cq wr ap (.pointer (some ⟨c,0,none⟩))=C a m):=Ez (O.out wr r.out.B).1.S hF.out d5 b7
   have b4:Hid (∀(U:Nat) (W:World),w.heap.size<=U->aa W U #[.int .i64 (b.at_:Int),.int .i64 (b.mode:Int)] 179->BO w.heap.size w W k (g++bB p a m b)->
    (∃(c a m f:Nat) (g:List Bool),Value.pointer (some ⟨U,0,none⟩)= .pointer (some ⟨c,0,none⟩)/\a<=p.size/\m<5/\w.heap.size<=c/\Hid (aa W c #[.int .i64 (a:Int),.int .i64 (m:Int)] 179)/\Hid (BO w.heap.size w W k g)/\Hid (g++fB p A f a m=fB p A c0 0 0)/\Hid (C a m<=f)/\Hid (g.length+C a m<=c0))/\Cq W ap (.pointer (some ⟨U,0,none⟩))<Cq wr ap (.pointer (some ⟨c,0,none⟩))):=by
    show∀(U:Nat) (W:World),_;intro U W d6 cs cv;have fd:C a m=b.size+C b.at_ b.mode:=B.eq;have fr:=B.ps;have fv:=B.ln;have fx:=b8.out;have f0:=bo.out;obtain⟨a4,rfl⟩:∃a4,f=a4+1:=⟨f-1,by omega⟩;refine⟨⟨U,b.at_,b.mode,a4,g++bB p a m b,rfl,B.le,B.md,d6,cs,cv,?_,?_,?_⟩,?_⟩
    ·have t:=bi.out;have e1:fB p A (a4+1) a m=bB p a m b++fB p A a4 b.at_ b.mode:=by
      show(if a<p.size then _ else _)=_;rw[if_pos cg,b9]
     rw[e1,<-List.append_assoc]at t;exact t
    ·show _<=_;omega
    ·show _<=_;rw[List.length_append];omega
    ·rw[c5.out,Ez (O.out W cv.B).1.S cs B.le B.md];omega
   have V:Hid (g.length<=1073741824):=by show _<=_;have:=bo.out;have:=bv.out;omega
   have f1:=fp m;have f2:=B.nm;have eh:=B.s1;have ej:=B.s2;have c6:b.run<=4096:=by have:=B.rn;omega
   have ek:=O.out wr r.out.B;clear bi b8 bo c5 b9 B ek;go_wp2;refine yO (af wr) [1,2,3,4,5,6,7,8] (ak (Below.refl _ _)) ?_
   repeat refine zO a3.out ?_
   refine ag ?_;have b2:Hid (aa wr.drew c #[.int .i64 (a:Int),.int .i64 (m:Int)] 179):=hF.out.below (ak (Below.refl _ _));have K:Hid (BO w.heap.size w wr.drew k g):=r.out.below (ak (Below.refl _ _));have a0:Hid (∀W,af wr.drew W->W.cell? ⟨H,482,none⟩=some (.map (some hb))):=λW n=>(a3.out W (ab (ak (Below.refl _ _)) n)).2.1;clear hF r a3;go_wp2;generalize el:wr.drew=J at b2 K a0⊢;clear el;have c7:Hid (∀W,af J W->cU W hb cb A):=λW n=>(O.out W (K.out.B.trans (n.mono K.out.n2))).2;refine yO (af J) [1,2,3,4,5,6,0,7,8] (ak (Below.refl _ _)) ?_;refine zO a0.out ?_;refine zO a0.out ?_;refine zO a0.out ?_;refine zO a0.out ?_;refine' zV rfl (λW n=>ji 179 _ Tryz.underlying179 rfl rfl c [_,_] dq rfl (b2.out.below n).cells) ?_;refine' zV rfl (λW n=>Ad (c7.out W n) rfl rfl a m rfl oO b7 b ef.out) ?_;refine' eJ 181 rfl rfl _ lA (ae (ak (Below.refl _ _)) _) ?_;simp only[yQ,yU,yX,yY];refine' Bm 181 rfl _ _ rfl 181 _ b.aC rfl rfl dK rfl b.one (ae (ak (Below.refl _ _)) _) ?_;simp only[Act.put];refine ag ?_;have a8:Hid (aa (J.drew.alloc (.cells b.aC.toArray 181)) c #[.int .i64 (a:Int),.int .i64 (m:Int)] 179/\aa (J.drew.alloc (.cells b.aC.toArray 181)) J.drew.heap.size b.aC.toArray 181):=⟨b2.out.below (ae (ak (Below.refl _ _)) _),aa.new _ _ _ _ rfl⟩;have c8:Hid (BO w.heap.size w (J.drew.alloc (.cells b.aC.toArray 181)) k g):=K.out.below (ae (ak (Below.refl _ _)) _);clear b2 K a0 c7;generalize J.drew.alloc (.cells b.aC.toArray 181)=bq at*;generalize J.drew.heap.size=j at*;go_wp2;have a1:Hid (∀W,(aa W c #[.int .i64 (a:Int),.int .i64 (m:Int)] 179/\aa W j b.aC.toArray 181)->W.cell? ⟨j,0,none⟩=some (.int .i64 (b.num:Int))/\W.cell? ⟨c,1,none⟩=some (.int .i64 (m:Int))):=λW n=>⟨n.2.cell 0 _ rfl,n.1.cell 1 _ rfl⟩;refine yO (λW=>aa W c #[.int .i64 (a:Int),.int .i64 (m:Int)] 179/\aa W j b.aC.toArray 181) [1,2,3,4,5,0,6,7] a8.out ?_;refine zO a1.out ?_;refine zO a1.out ?_;refine zO a1.out ?_;refine zO a1.out ?_;refine zO a1.out ?_;refine zZ ?_;refine(jn m _).mono ?_;rintro e fn ⟨rfl,c9⟩;rw[c9];clear c9;refine⟨_,rfl,a8.out,jO ?_⟩;refine zZ ?_;have d0:Hid (BO w.heap.size w bq.drew k g):=c8.out.below (ak (Below.refl _ _));refine(CM w.heap.size w bq.drew k g b.num (aj m) d0.out oO oO (by have:=V.out;omega)).mono ?_;rintro e u ⟨rfl,s,l⟩;have Z:=Lib.hid s;have y:Hid (aa u c #[.int .i64 (a:Int),.int .i64 (m:Int)] 179/\aa u j b.aC.toArray 181):=⟨aa.cZ (w:=bq.drew) a8.out.1 l (by simp[notBits]),aa.cZ (w:=bq.drew) a8.out.2 l (by simp[notBits])⟩;clear s l c8 d0 a8 a1;refine⟨_,rfl,y.out,jO ?_⟩;refine ag ?_;have a2:=Lib.hid (bm b.num (aj m));have ca:u.cell? ⟨j,1,none⟩=some (.int .i64 b.sec):=y.out.2.cell 1 _ rfl;have P:u.cell? ⟨j,2,none⟩=some (.int .i64 (b.run:Int)):=y.out.2.cell 2 _ rfl;have bs:u.cell? ⟨j,3,none⟩=some (.bool b.long):=y.out.2.cell 3 _ rfl;by_cases E:0<=b.sec
   ·obtain⟨bt,ch⟩:=Int.eq_ofNat_of_zero_le E;have M:=b1.out.sr E;have F:Hid (bB p a m b=aH b.num (aj m)++aH bt 5):=by
     show _=_;unfold bB gj;rw[if_pos E,M,if_neg oO,List.append_nil,ch];rfl
    rw[ch]at ca ej;rw[M]at P;have f5:bt<32:=oO;clear E eh ch P
    go_wp2_with(first
     |(go_at_call 131;(with_reducible show Calls _ _ _ u _);refine(mR w.heap.size w u k (g++aH b.num (aj m)) bt 5 _ _ rfl rfl Z.out oO oO (by have:=V.out;have:=a2.out;simp only[List.length_append,bm];omega)).mono ?_;rintro e z ⟨rfl,s,l⟩;have a9:=Lib.hid s;have G:Hid (aa z c #[.int .i64 (a:Int),.int .i64 (m:Int)] 179/\aa z j b.aC.toArray 181):=⟨y.out.1.cZ l (by simp[notBits]),y.out.2.cZ l (by simp[notBits])⟩;have d1:z.cell? ⟨j,2,none⟩=some (.int .i64 0):=(by have t:z.cell? ⟨j,2,none⟩=some (.int .i64 (b.run:Int)):=G.out.2.cell 2 _ rfl;rw[M]at t;exact t);have D:Hid (aa z c #[.int .i64 (a:Int),.int .i64 (m:Int)] 179):=G.out.1;have X:Hid (ai z j b.aC):=G.out.2.cells;clear s l)
     |((with_reducible show wpList _ _ _ (⟨_,Op.load 179 _,_,_,_,_⟩::_) _ _);first|refine aK rfl 179 _ rfl _ Tryz.underlying179 rfl ⟨j,5,none⟩ [.int .i64 (b.at_:Int),.int .i64 (b.mode:Int)] dq rfl (oh X.out) ?_|refine aK rfl 179 _ rfl _ Tryz.underlying179 rfl ⟨c,0,none⟩ [.int .i64 (b.at_:Int),.int .i64 (b.mode:Int)] dq rfl (bS ((D.out.set _).cells)) ?_)
     |((with_reducible show wpList _ _ _ (⟨_,Op.alloc 179,_,_,_,_⟩::_) _ _);refine aU rfl 179 rfl _ jl ?_)
     |((with_reducible show wpList _ _ _ (⟨_,Op.store 179 _ _,_,_,_,_⟩::_) _ _);first|(refine bQ rfl 179 _ _ rfl 179 c 0 #[.int .i64 (a:Int),.int .i64 (m:Int)] [.int .i64 (b.at_:Int),.int .i64 (b.mode:Int)] rfl rfl D.out dq (by show 2<=2;omega) (fl _ _) ?_;rw[fM [.int .i64 (a:Int),.int .i64 (m:Int)] [.int .i64 (b.at_:Int),.int .i64 (b.mode:Int)] rfl])|refine bg rfl 179 _ _ rfl 179 _ [_,_] rfl rfl dq rfl (fl _ _) ?_))
    have ac:Hid (BO w.heap.size w ((z.setRow c #[.int .i64 (b.at_:Int),.int .i64 (b.mode:Int)]).alloc (.cells #[.int .i64 (b.at_:Int),.int .i64 (b.mode:Int)] 179)) k (g++bB p a m b)):=by
     have t:=(a9.out.setRow bx G.out.1 #[.int .i64 (b.at_:Int),.int .i64 (b.mode:Int)]).below (ar _ (.cells #[.int .i64 (b.at_:Int),.int .i64 (b.mode:Int)] 179));rw[show g++bB p a m b=(g++aH b.num (aj m))++aH bt 5 from(by rw[F.out,List.append_assoc])];exact t
    have ad:w.heap.size<=z.heap.size:=a9.out.n2;exact b4.out _ _ (by simpa using ad) (aa.new _ _ _ _ oS) ac.out
   have f3:decide ((0:Int)<=b.sec)=false:=by simp;omega
   by_cases M:b.run=0
   ·have F:Hid (bB p a m b=aH b.num (aj m)):=by
     show _=_;unfold bB gj;rw[if_neg E,M,if_neg oO,List.append_nil,List.append_nil]
    rw[M]at P;clear E;have D:Hid (aa u c #[.int .i64 (a:Int),.int .i64 (m:Int)] 179):=y.out.1;have X:Hid (ai u j b.aC):=y.out.2.cells
    go_wp2_with(first
     |((with_reducible show wpList _ _ _ (⟨_,Op.load 179 _,_,_,_,_⟩::_) _ _);first|refine aK rfl 179 _ rfl _ Tryz.underlying179 rfl ⟨j,5,none⟩ [.int .i64 (b.at_:Int),.int .i64 (b.mode:Int)] dq rfl (oh X.out) ?_|refine aK rfl 179 _ rfl _ Tryz.underlying179 rfl ⟨c,0,none⟩ [.int .i64 (b.at_:Int),.int .i64 (b.mode:Int)] dq rfl (bS ((D.out.set _).cells)) ?_)
     |((with_reducible show wpList _ _ _ (⟨_,Op.alloc 179,_,_,_,_⟩::_) _ _);refine aU rfl 179 rfl _ jl ?_)
     |((with_reducible show wpList _ _ _ (⟨_,Op.store 179 _ _,_,_,_,_⟩::_) _ _);first|(refine bQ rfl 179 _ _ rfl 179 c 0 #[.int .i64 (a:Int),.int .i64 (m:Int)] [.int .i64 (b.at_:Int),.int .i64 (b.mode:Int)] rfl rfl D.out dq (by show 2<=2;omega) (fl _ _) ?_;rw[fM [.int .i64 (a:Int),.int .i64 (m:Int)] [.int .i64 (b.at_:Int),.int .i64 (b.mode:Int)] rfl])|refine bg rfl 179 _ _ rfl 179 _ [_,_] rfl rfl dq rfl (fl _ _) ?_))
    have ac:Hid (BO w.heap.size w ((u.setRow c #[.int .i64 (b.at_:Int),.int .i64 (b.mode:Int)]).alloc (.cells #[.int .i64 (b.at_:Int),.int .i64 (b.mode:Int)] 179)) k (g++bB p a m b)):=by
     have t:=(Z.out.setRow bx y.out.1 #[.int .i64 (b.at_:Int),.int .i64 (b.mode:Int)]).below (ar _ (.cells #[.int .i64 (b.at_:Int),.int .i64 (b.mode:Int)] 179));rw[show g++bB p a m b=g++aH b.num (aj m)from(by rw[F.out])];exact t
    have ad:w.heap.size<=u.heap.size:=Z.out.n2;exact b4.out _ _ (by simpa using ad) (aa.new _ _ _ _ oS) ac.out
   cases a5:b.long with
   |true=>
    rw[a5]at bs;have et:=b1.out.lg oO a5;have F:Hid (g++bB p a m b=(((g++aH b.num (aj m))++aH 0 5)++aH (b.run-31) 11)++byF p a b.run):=by
     show _=_;unfold bB gj;rw[if_neg E,if_pos oO,if_pos a5,List.append_nil];simp only[List.append_assoc]
    have cp:a+b.run<=p.size:=b1.out.rn;obtain⟨rn,al⟩:∃rn,rn=b.run:=⟨_,rfl⟩;have b3:=Lib.hid al;rw[<-al]at M c6 et cp F P;clear al;have f6:IntKind.i64.wrap ((rn:Int)-31)=((rn-31:Nat):Int):=by rw[aJ _ oO oO];omega
    have em:0<rn:=oO;clear E;go_wp2_with(go_at_call 131;(with_reducible show Calls _ _ _ u _);refine(mR w.heap.size w u k (g++aH b.num (aj m)) 0 5 _ _ rfl rfl Z.out oO oO (by have:=V.out;have:=a2.out;simp only[List.length_append,bm];omega)).mono ?_;rintro e z ⟨rfl,s,l⟩;have a9:=Lib.hid s;have G:Hid (aa z c #[.int .i64 (a:Int),.int .i64 (m:Int)] 179/\aa z j b.aC.toArray 181):=⟨y.out.1.cZ l (by simp[notBits]),y.out.2.cZ l (by simp[notBits])⟩;have d1:z.cell? ⟨j,2,none⟩=some (.int .i64 (rn:Int)):=(by rw[b3.out];exact G.out.2.cell 2 _ rfl);clear s l)
    clear Z y ca P bs;go_wp2_with(go_at_call 131;(with_reducible show Calls _ _ _ z _);refine(mR w.heap.size w z k ((g++aH b.num (aj m))++aH 0 5) (rn-31) 11 _ _ rfl rfl a9.out oO oO (by have:=V.out;have:=a2.out;simp only[List.length_append,bm];omega)).mono ?_;rintro e Q ⟨rfl,s,l⟩;have bb:=Lib.hid s;have am:Hid (aa Q c #[.int .i64 (a:Int),.int .i64 (m:Int)] 179/\aa Q j b.aC.toArray 181):=⟨G.out.1.cZ l (by simp[notBits]),G.out.2.cZ l (by simp[notBits])⟩;have e0:Q.cell? ⟨j,2,none⟩=some (.int .i64 (rn:Int)):=(by rw[b3.out];exact am.out.2.cell 2 _ rfl);clear s l)
    clear a9 G d1;have ci:Hid ((((g++aH b.num (aj m))++aH 0 5)++aH (rn-31) 11).length<=1073742000):=by show _<=_;have:=V.out;have:=a2.out;simp only[List.length_append,bm];omega
    generalize((g++aH b.num (aj m))++aH 0 5)++aH (rn-31) 11=L at*;go_loopw [64] (λS wr=>∃i:Nat,i<=rn/\S= .int .i64 i/\Hid (BO w.heap.size w wr k (L++byF p a i))/\Hid (aa wr c #[.int .i64 (a:Int),.int .i64 (m:Int)] 179/\aa wr j b.aC.toArray 181)) (λS _=>rn-(intOf S).toNat)
    case atStart=>exact⟨0,Nat.zero_le _,rfl,by show BO _ _ _ _ _;rw[show byF p a 0=[]from rfl,List.append_nil];exact bb.out,am.out⟩
    case round=>
     clear bb am;obtain⟨i,en,rfl,r,hF⟩:=hrel;by_cases eu:i<rn
     ·obtain⟨x,a6⟩:∃x,x=(p.data.toList.getD (a+i) 0).toNat:=⟨_,rfl⟩;have Y:=Lib.hid a6;have o:Hid (∀W,(Below w.heap.size w W/\aa W c #[.int .i64 (a:Int),.int .i64 (m:Int)] 179)->W.cell? ⟨H,0,none⟩=some (.string p)/\W.cell? ⟨c,0,none⟩=some (.int .i64 (a:Int))):=λW n=>⟨(O.out W n.1).1.S.c0,n.2.cell 0 _ rfl⟩;have ck:a+i<p.size:=oO;have ex:IntKind.i64.wrap ((a:Int)+(i:Int))=((a+i:Nat):Int):=by rw[aJ _ oO oO];omega
      clear a6;go_wp2;refine yO (λW=>Below w.heap.size w W/\aa W c #[.int .i64 (a:Int),.int .i64 (m:Int)] 179) [1,2,3,4,5,6,7,8,9,10,11,0,12] ⟨ak r.out.B,hF.out.1⟩ ?_;refine zO o.out ?_;refine zO o.out ?_;refine zO o.out ?_;refine zO o.out ?_;refine zO o.out ?_;refine zO o.out ?_;refine zO o.out ?_;refine zO o.out ?_;refine zO o.out ?_;refine' zV rfl (λW n=>sT rfl rfl rfl (a+i) rfl ck) ?_;rw[<-Y.out];have ey:x<256:=by rw[Y.out];exact UInt8.toNat_lt _
      refine zO o.out ?_;refine zZ ?_;have a7:Hid (BO w.heap.size w wr.drew k (L++byF p a i)):=r.out.below (ak (Below.refl _ _));rw[show IntKind.i64.wrap (x:Int)=(x:Int)from aJ _ oO oO];refine(mR w.heap.size w wr.drew k (L++byF p a i) x 8 _ _ rfl rfl a7.out oO oO (by have:=ci.out;rw[List.length_append,oW];omega)).mono ?_;rintro e T ⟨rfl,s,l⟩;have bd:Hid (BO w.heap.size w T k (L++byF p a (i+1))):=by
       show BO _ _ _ _ _;rw[show byF p a (i+1)=byF p a i++aH x 8 from by rw[Y.out];rfl,<-List.append_assoc];exact s
      have be:Hid (aa T c #[.int .i64 (a:Int),.int .i64 (m:Int)] 179/\aa T j b.aC.toArray 181):=⟨aa.cZ (w:=wr.drew) hF.out.1 l (by simp[notBits]),aa.cZ (w:=wr.drew) hF.out.2 l (by simp[notBits])⟩;clear s l r hF a7 o;refine⟨_,rfl,⟨bd.out.B,be.out.1⟩,jO ?_⟩;refine ag ?_;go_wp2;exact⟨⟨i+1,by omega,by go_num,bd.out,be.out⟩,by simp[intOf];omega⟩
     ·have co:i=rn:=oO;have bf:Hid (BO w.heap.size w wr k (L++byF p a rn)):=by rw[<-co];exact r.out
      clear r;have D:Hid (aa wr c #[.int .i64 (a:Int),.int .i64 (m:Int)] 179):=hF.out.1;have X:Hid (ai wr j b.aC):=hF.out.2.cells
      go_wp2_with(first
       |((with_reducible show wpList _ _ _ (⟨_,Op.load 179 _,_,_,_,_⟩::_) _ _);first|refine aK rfl 179 _ rfl _ Tryz.underlying179 rfl ⟨j,5,none⟩ [.int .i64 (b.at_:Int),.int .i64 (b.mode:Int)] dq rfl (oh X.out) ?_|refine aK rfl 179 _ rfl _ Tryz.underlying179 rfl ⟨c,0,none⟩ [.int .i64 (b.at_:Int),.int .i64 (b.mode:Int)] dq rfl (bS ((D.out.set _).cells)) ?_)
       |((with_reducible show wpList _ _ _ (⟨_,Op.alloc 179,_,_,_,_⟩::_) _ _);refine aU rfl 179 rfl _ jl ?_)
       |((with_reducible show wpList _ _ _ (⟨_,Op.store 179 _ _,_,_,_,_⟩::_) _ _);first|(refine bQ rfl 179 _ _ rfl 179 c 0 #[.int .i64 (a:Int),.int .i64 (m:Int)] [.int .i64 (b.at_:Int),.int .i64 (b.mode:Int)] rfl rfl D.out dq (by show 2<=2;omega) (fl _ _) ?_;rw[fM [.int .i64 (a:Int),.int .i64 (m:Int)] [.int .i64 (b.at_:Int),.int .i64 (b.mode:Int)] rfl])|refine bg rfl 179 _ _ rfl 179 _ [_,_] rfl rfl dq rfl (fl _ _) ?_))
      have ac:Hid (BO w.heap.size w ((wr.setRow c #[.int .i64 (b.at_:Int),.int .i64 (b.mode:Int)]).alloc (.cells #[.int .i64 (b.at_:Int),.int .i64 (b.mode:Int)] 179)) k (g++bB p a m b)):=by
       have t:=(bf.out.setRow bx hF.out.1 #[.int .i64 (b.at_:Int),.int .i64 (b.mode:Int)]).below (ar _ (.cells #[.int .i64 (b.at_:Int),.int .i64 (b.mode:Int)] 179));rw[show g++bB p a m b=L++byF p a rn from F.out];exact t
      have ad:w.heap.size<=wr.heap.size:=bf.out.n2;exact b4.out _ _ (by simpa using ad) (aa.new _ _ _ _ oS) ac.out
   |false=>
    rw[a5]at bs;have F:Hid (g++bB p a m b=((g++aH b.num (aj m))++aH b.run 5)++byF p a b.run):=by
     show _=_;unfold bB gj;rw[if_neg E,if_pos oO,if_neg (by rw[a5];simp),List.append_nil];simp only[List.append_assoc]
    have cp:a+b.run<=p.size:=b1.out.rn;obtain⟨rn,al⟩:∃rn,rn=b.run:=⟨_,rfl⟩;have b3:=Lib.hid al;rw[<-al]at M c6 cp F P;clear al;have em:0<rn:=oO;clear E;go_wp2_with(go_at_call 131;(with_reducible show Calls _ _ _ u _);refine(mR w.heap.size w u k (g++aH b.num (aj m)) rn 5 _ _ rfl rfl Z.out oO oO (by have:=V.out;have:=a2.out;simp only[List.length_append,bm];omega)).mono ?_;rintro e Q ⟨rfl,s,l⟩;have bb:=Lib.hid s;have am:Hid (aa Q c #[.int .i64 (a:Int),.int .i64 (m:Int)] 179/\aa Q j b.aC.toArray 181):=⟨y.out.1.cZ l (by simp[notBits]),y.out.2.cZ l (by simp[notBits])⟩;have e0:Q.cell? ⟨j,2,none⟩=some (.int .i64 (rn:Int)):=(by rw[b3.out];exact am.out.2.cell 2 _ rfl);clear s l)
    clear Z y ca P bs;have ci:Hid (((g++aH b.num (aj m))++aH rn 5).length<=1073742000):=by show _<=_;have:=V.out;have:=a2.out;simp only[List.length_append,bm];omega
    generalize(g++aH b.num (aj m))++aH rn 5=L at*;go_loopw [64] (λS wr=>∃i:Nat,i<=rn/\S= .int .i64 i/\Hid (BO w.heap.size w wr k (L++byF p a i))/\Hid (aa wr c #[.int .i64 (a:Int),.int .i64 (m:Int)] 179/\aa wr j b.aC.toArray 181)) (λS _=>rn-(intOf S).toNat)
    case atStart=>exact⟨0,Nat.zero_le _,rfl,by show BO _ _ _ _ _;rw[show byF p a 0=[]from rfl,List.append_nil];exact bb.out,am.out⟩
    case round=>
     clear bb am;obtain⟨i,en,rfl,r,hF⟩:=hrel;by_cases eu:i<rn
     ·obtain⟨x,a6⟩:∃x,x=(p.data.toList.getD (a+i) 0).toNat:=⟨_,rfl⟩;have Y:=Lib.hid a6;have o:Hid (∀W,(Below w.heap.size w W/\aa W c #[.int .i64 (a:Int),.int .i64 (m:Int)] 179)->W.cell? ⟨H,0,none⟩=some (.string p)/\W.cell? ⟨c,0,none⟩=some (.int .i64 (a:Int))):=λW n=>⟨(O.out W n.1).1.S.c0,n.2.cell 0 _ rfl⟩;have ck:a+i<p.size:=oO;have ex:IntKind.i64.wrap ((a:Int)+(i:Int))=((a+i:Nat):Int):=by rw[aJ _ oO oO];omega
      clear a6;go_wp2;refine yO (λW=>Below w.heap.size w W/\aa W c #[.int .i64 (a:Int),.int .i64 (m:Int)] 179) [1,2,3,4,5,6,7,8,9,10,11,0,12] ⟨ak r.out.B,hF.out.1⟩ ?_;refine zO o.out ?_;refine zO o.out ?_;refine zO o.out ?_;refine zO o.out ?_;refine zO o.out ?_;refine zO o.out ?_;refine zO o.out ?_;refine zO o.out ?_;refine zO o.out ?_;refine' zV rfl (λW n=>sT rfl rfl rfl (a+i) rfl ck) ?_;rw[<-Y.out];have ey:x<256:=by rw[Y.out];exact UInt8.toNat_lt _
      refine zO o.out ?_;refine zZ ?_;have a7:Hid (BO w.heap.size w wr.drew k (L++byF p a i)):=r.out.below (ak (Below.refl _ _));rw[show IntKind.i64.wrap (x:Int)=(x:Int)from aJ _ oO oO];refine(mR w.heap.size w wr.drew k (L++byF p a i) x 8 _ _ rfl rfl a7.out oO oO (by have:=ci.out;rw[List.length_append,oW];omega)).mono ?_;rintro e T ⟨rfl,s,l⟩;have bd:Hid (BO w.heap.size w T k (L++byF p a (i+1))):=by
       show BO _ _ _ _ _;rw[show byF p a (i+1)=byF p a i++aH x 8 from by rw[Y.out];rfl,<-List.append_assoc];exact s
      have be:Hid (aa T c #[.int .i64 (a:Int),.int .i64 (m:Int)] 179/\aa T j b.aC.toArray 181):=⟨aa.cZ (w:=wr.drew) hF.out.1 l (by simp[notBits]),aa.cZ (w:=wr.drew) hF.out.2 l (by simp[notBits])⟩;clear s l r hF a7 o;refine⟨_,rfl,⟨bd.out.B,be.out.1⟩,jO ?_⟩;refine ag ?_;go_wp2;exact⟨⟨i+1,by omega,by go_num,bd.out,be.out⟩,by simp[intOf];omega⟩
     ·have co:i=rn:=oO;have bf:Hid (BO w.heap.size w wr k (L++byF p a rn)):=by rw[<-co];exact r.out
      clear r;have D:Hid (aa wr c #[.int .i64 (a:Int),.int .i64 (m:Int)] 179):=hF.out.1;have X:Hid (ai wr j b.aC):=hF.out.2.cells
      go_wp2_with(first
       |((with_reducible show wpList _ _ _ (⟨_,Op.load 179 _,_,_,_,_⟩::_) _ _);first|refine aK rfl 179 _ rfl _ Tryz.underlying179 rfl ⟨j,5,none⟩ [.int .i64 (b.at_:Int),.int .i64 (b.mode:Int)] dq rfl (oh X.out) ?_|refine aK rfl 179 _ rfl _ Tryz.underlying179 rfl ⟨c,0,none⟩ [.int .i64 (b.at_:Int),.int .i64 (b.mode:Int)] dq rfl (bS ((D.out.set _).cells)) ?_)
       |((with_reducible show wpList _ _ _ (⟨_,Op.alloc 179,_,_,_,_⟩::_) _ _);refine aU rfl 179 rfl _ jl ?_)
       |((with_reducible show wpList _ _ _ (⟨_,Op.store 179 _ _,_,_,_,_⟩::_) _ _);first|(refine bQ rfl 179 _ _ rfl 179 c 0 #[.int .i64 (a:Int),.int .i64 (m:Int)] [.int .i64 (b.at_:Int),.int .i64 (b.mode:Int)] rfl rfl D.out dq (by show 2<=2;omega) (fl _ _) ?_;rw[fM [.int .i64 (a:Int),.int .i64 (m:Int)] [.int .i64 (b.at_:Int),.int .i64 (b.mode:Int)] rfl])|refine bg rfl 179 _ _ rfl 179 _ [_,_] rfl rfl dq rfl (fl _ _) ?_))
      have ac:Hid (BO w.heap.size w ((wr.setRow c #[.int .i64 (b.at_:Int),.int .i64 (b.mode:Int)]).alloc (.cells #[.int .i64 (b.at_:Int),.int .i64 (b.mode:Int)] 179)) k (g++bB p a m b)):=by
       have t:=(bf.out.setRow bx hF.out.1 #[.int .i64 (b.at_:Int),.int .i64 (b.mode:Int)]).below (ar _ (.cells #[.int .i64 (b.at_:Int),.int .i64 (b.mode:Int)] 179));rw[show g++bB p a m b=L++byF p a rn from F.out];exact t
      have ad:w.heap.size<=wr.heap.size:=bf.out.n2;exact b4.out _ _ (by simpa using ad) (aa.new _ _ _ _ oS) ac.out
  ·have d7:Hid (g=fB p A c0 0 0):=by
    show _=_;rw[<-bi.out];have e1:fB p A f a m=[]:=by
     cases f with
     |zero=>rfl
     |succ f=>show(if a<p.size then _ else _)=_;rw[if_neg cg]
    rw[e1,List.append_nil]
   obtain⟨cx,c2,dl,dm⟩:=r.out.X;have eq:=Lib.hid dl;have er:=Lib.hid dm;have es:=Lib.hid r.out.B;clear hF r bi b8 bo dl dm;go_wp2;refine yO (af wr) [1,2,3,4,5,6,7,8] (ak (Below.refl _ _)) ?_
   repeat refine zO a3.out ?_
   refine ag ?_;have ez:Hid (aa wr.drew k #[.slice cx g.length c2] 26):=eq.out.below (ak (Below.refl _ _));have fo:wr.drew.cell? ⟨k,0,none⟩=some (.slice cx g.length c2):=ez.out.cell 0 _ rfl;clear a3;go_wp2;go_ret;refine⟨_,rfl,?_,ak es.out⟩;rw[<-d7.out];exact SG.bU (f:=vB) (d:=false) (ah er.out (ak (Below.refl _ _)))
structure cj (p:ByteArray) (C:Nat->Nat->Nat):Prop where
 fix:∀a,a<p.size->kG C p a
 zero:∀a m,p.size<=a->C a m=0
 top:∀a m,C a m<=1073741824
theorem tK (m:Nat):4<=aj m:=by unfold aj;split<;>omega
theorem wh {C:Nat->Nat->Nat} {num at_ m:Nat} {best:an} {n sz:Nat} {lg:Bool} (hb:best.mode=m):(cH C num at_ m best n sz lg).mode=m:=by unfold cH;split<;>first|rfl|exact hb
theorem pS {C:Nat->Nat->Nat} {num at_ m:Nat}:∀k,(cJ C num at_ m k).mode=m
 |0=>rfl
 |k+1=>wh (pS k)
theorem sc {C:Nat->Nat->Nat} {num at_ m K:Nat}:∀k,(bO C num at_ m K k).mode=m
 |0=>pS K
 |k+1=>wh (sc k)
theorem sC {C C':Nat->Nat->Nat} {num at_ m:Nat} {best:an} {n sz:Nat} {lg:Bool} (h:∀a,at_<a->C a m=C' a m) (hn:0<n) (b:best.mode=m) (hb:best.run=0\/at_<best.at_):cH C num at_ m best n sz lg=cH C' num at_ m best n sz lg:=by
 have e1:an.aG C ⟨num,-1,n,lg,sz+8* n,at_+n,m⟩=an.aG C' ⟨num,-1,n,lg,sz+8* n,at_+n,m⟩:=by
  unfold an.aG;rw[h _ (by show at_<at_+n;omega)]
 unfold cH;rcases hb with hb|hb
 ·rw[if_pos (.inl hb),if_pos (.inl hb)]
 ·have e2:best.aG C=best.aG C':=by unfold an.aG;rw[b,h _ hb]
  rw[e1,e2]
theorem rp {C C':Nat->Nat->Nat} {num at_ m:Nat} (h:∀a,at_<a->C a m=C' a m):∀k,cJ C num at_ m k=cJ C' num at_ m k
 |0=>rfl
 |k+1=>by
  show cH C _ _ _ _ _ _ _=cH C' _ _ _ _ _ _ _;rw[sC h oO (pS k) (lS k),rp h k]
theorem qt {C C':Nat->Nat->Nat} {num at_ m K:Nat} (h:∀a,at_<a->C a m=C' a m):∀k,bO C num at_ m K k=bO C' num at_ m K k
 |0=>rp h K
 |k+1=>by
  show cH C _ _ _ _ _ _ _=cH C' _ _ _ _ _ _ _;rw[sC h oO (sc k) (mw k),qt h k]
theorem oE {C C':Nat->Nat->Nat} {p:ByteArray} {at_ m:Nat} (h:∀a,at_<a->C a m=C' a m):∀k,bF C p at_ m k=bF C' p at_ m k
 |0=>rfl
 |k+1=>by
  unfold bF;rw[oE h k];congr 1;unfold bC cR;rw[qt h]
theorem qO {C:Nat->Nat->Nat} {p:ByteArray} {at_ m:Nat} {c:an}:∀k,c∈bF C p at_ m k->0<c.size:=by
 have g:=tK m;have d:∀num k,0<(cJ C num at_ m k).size:=by
  intro num k
  induction k with
  |zero=>show 0<1073741824;omega
  |succ k b=>
   show 0<(cH _ _ _ _ _ _ _ _).size;unfold cH;split
   ·show 0<aj m+16+8* (31+k);omega
   ·exact b
 have e:∀num K k,0<(bO C num at_ m K k).size:=by
  intro num K k
  induction k with
  |zero=>exact d num K
  |succ k b=>
   show 0<(cH _ _ _ _ _ _ _ _).size;unfold cH;split
   ·show 0<aj m+5+8* (1+k);omega
   ·exact b
 have f:∀n,c∈bC C p at_ m n->0<c.size:=by
  intro n a;unfold bC at a;split at a
  ·split at a
   ·rw[List.mem_singleton]at a;subst a;show 0<aj m;omega
   ·cases a
  split at a
  ·rw[List.mem_singleton]at a;subst a;show 0<aj m;omega
  split at a
  ·have key:∀k,c∈optSK p at_ m n (modeF m n) k->0<c.size:=by
    intro k
    induction k with
    |zero=>intro h;cases h
    |succ k b=>
     intro h;unfold optSK at h;rw[List.mem_append]at h;rcases h with h|h
     ·exact b h
     ·unfold eW at h;split at h
      ·rw[List.mem_singleton]at h;subst h;show 0<aj m+aj (modeF m n);omega
      ·cases h
   exact key 32 a
  split at a
  ·rw[List.mem_singleton]at a;subst a;exact e _ _ _
  ·cases a
 intro k
 induction k with
 |zero=>intro h;cases h
 |succ k b=>
  intro h;unfold bF at h;rw[List.mem_append]at h;rcases h with h|h
  ·exact b h
  ·exact f _ h
theorem cj.ur {p:ByteArray} {C C':Nat->Nat->Nat} (k:p.size<=4096) (h:cj p C) (l:cj p C') (a:Nat) (g:a<p.size) (i:∀a' m,a<a'->m<5->C a' m=C' a' m):∀x m,m<5->C' a m=x->C a m<=C' a m:=by
 intro x
 induction x using Nat.strongRecOn with
 |ind x r=>
  intro m c u;rcases(l.fix a g).2 m c with n|⟨f,b,e⟩
  ·rw[n];exact h.top a m
  ·have o:bF C' p a m 32=bF C p a m 32:=oE (λa' s=>(i a' m s c).symm) 32;have j:=pg g k c 32 b;have v:=qO 32 b;have t:=vu 32 b;rw[o]at b;have q:=(h.fix a g).1 m c f b;refine Nat.le_trans q ?_;rw[<-e];unfold an.aG at e⊢;refine Nat.add_le_add_left ?_ _;rcases Nat.eq_or_lt_of_le t with d|d
   ·rw[<-d];rw[<-d]at e;exact r (C' a f.mode) oO f.mode j.2.1 rfl
   ·rw[i _ _ d j.2.1];exact Nat.le_refl _
theorem cj.uniq {p:ByteArray} {C C':Nat->Nat->Nat} (f:p.size<=4096) (h:cj p C) (c:cj p C') (a m:Nat) (d:m<5):C a m=C' a m:=by
 have key:∀k a,p.size<=a+k->∀m,m<5->C a m=C' a m:=by
  intro k
  induction k with
  |zero=>intro a b m _;rw[h.zero a m b,c.zero a m b]
  |succ k j=>
   intro a l m d;by_cases b:a<p.size
   ·have i:∀a' m,a<a'->m<5->C a' m=C' a' m:=λa' m g e=>j a' oO m e;exact Nat.le_antisymm (h.ur f c a b i _ m d rfl) (c.ur f h a b (λa' m g e=>(i a' m g e).symm) _ m d rfl)
   ·rw[h.zero a m oO,c.zero a m oO]
 exact key p.size a oO m d
theorem vw {C:Nat->Nat->Nat} {num at_ m:Nat} {best:an} {n sz:Nat} {lg:Bool} (hb:best.run≠0):(cH C num at_ m best n sz lg).aG C<=best.aG C:=by
 unfold cH;split
 ·rename_i h
  rcases h with h|h
  ·exact absurd h hb
  ·exact Nat.le_of_lt h
 ·exact Nat.le_refl _
theorem yn {C:Nat->Nat->Nat} {num at_ m:Nat} {best:an} {n sz:Nat} {lg:Bool}:(cH C num at_ m best n sz lg).aG C<=an.aG C ⟨num,-1,n,lg,sz+8* n,at_+n,m⟩:=by
 unfold cH;split
 ·exact Nat.le_refl _
 ·rename_i h;omega
theorem jZ {C:Nat->Nat->Nat} {num at_ m:Nat} {best:an} {n sz:Nat} {lg:Bool} (hn:0<n):(cH C num at_ m best n sz lg).run≠0:=by
 unfold cH;split
 ·show n≠0;omega
 ·rename_i h;exactλe=>h (.inl e)
theorem nQ {C:Nat->Nat->Nat} {num at_ m K:Nat}:∀k j,1<=j->j<=k->(bO C num at_ m K k).aG C<=an.aG C ⟨num,-1,j,false,aj m+5+8* j,at_+j,m⟩
 |0,j,a,b=>by omega
 |k+1,j,a,b=>by
  show(cH _ _ _ _ _ _ _ _).aG C<=_;by_cases e:j=1+k
  ·subst e;exact yn
  ·have c:=nQ (C:=C) (num:=num) (at_:=at_) (m:=m) (K:=K) k j a oO;refine Nat.le_trans (vw ?_) c;cases k with
   |zero=>omega
   |succ k=>exact jZ oO
theorem pt {C:Nat->Nat->Nat} {num at_ m:Nat}:∀k j,31<=j->j<31+k->(cJ C num at_ m k).aG C<=an.aG C ⟨num,-1,j,true,aj m+16+8* j,at_+j,m⟩
 |0,j,a,b=>by omega
 |k+1,j,a,b=>by
  show(cH _ _ _ _ _ _ _ _).aG C<=_;by_cases e:j=31+k
  ·subst e;exact yn
  ·have c:=pt (C:=C) (num:=num) (at_:=at_) (m:=m) k j a oO;refine Nat.le_trans (vw ?_) c;cases k with
   |zero=>omega
   |succ k=>exact jZ oO
theorem mD {C:Nat->Nat->Nat} {num at_ m K:Nat} (a:0<K):∀k,(bO C num at_ m K k).aG C<=(cJ C num at_ m K).aG C/\(bO C num at_ m K k).run≠0
 |0=>⟨Nat.le_refl _,by
  obtain⟨K',rfl⟩:∃K',K=K'+1:=⟨K-1,by omega⟩
  exact jZ oO⟩
 |k+1=>⟨Nat.le_trans (vw (mD a k).2) (mD a k).1,jZ oO⟩
theorem jV {C:Nat->Nat->Nat} {p:ByteArray} {at_ m n:Nat} {a:an} (b:a∈bC C p at_ m n):∀k,n<k->a∈bF C p at_ m k
 |0,h=>by omega
 |k+1,h=>by
  unfold bF;rw[List.mem_append];by_cases e:n=k
  ·subst e;exact .inr b
  ·exact .inl (jV b k oO)
theorem cj.bin {p:ByteArray} {C:Nat->Nat->Nat} (h:cj p C) (a m:Nat) (b:a<p.size) (n:m<3):C a m<=18+C (a+1) m:=by
 have c:cf m 31=4:=by
  have d:cf 0 31=4:=oK;have e:cf 1 31=4:=oK;have f:cf 2 31=4:=oK;have g:m=0\/m=1\/m=2:=oO;rcases g with rfl|rfl|rfl
  ·exact d
  ·exact e
  ·exact f
 have i:aj m=5:=by unfold aj;rw[if_neg oO]
 have j:cR C 31 a m (p.size-a)∈bC C p a m 31:=by
  unfold bC;rw[c,if_neg oO,if_neg oO,if_neg oO,if_pos rfl];exact List.mem_singleton.2 rfl
 have k:=(h.fix a b).1 m oO _ (jV j 32 oO);refine Nat.le_trans k ?_;have l:=nQ (C:=C) (num:=31) (at_:=a) (m:=m) (K:=min (p.size-a) 2078-30) (min (p.size-a) 31) 1 oO oO;refine Nat.le_trans l ?_;show aj m+5+8* 1+C (a+1) m<=_;rw[i];omega
theorem cj.fQ {p:ByteArray} {C:Nat->Nat->Nat} (h:cj p C) (a m n:Nat) (b:a<p.size) (c:m<5) (hn:n<32) (d:cf m n=2):C a m<=aj m+C a (modeF m n):=by
 have e:(⟨n,-1,0,false,aj m,a,modeF m n⟩:an)∈bC C p a m n:=by
  unfold bC;rw[d,if_neg oO,if_pos rfl];exact List.mem_singleton.2 rfl
 exact(h.fix a b).1 m c _ (jV e 32 hn)
theorem cj.up {p:ByteArray} {C:Nat->Nat->Nat} (h:cj p C) (a:Nat):C a 0<=18* (p.size-a):=by
 have key:∀k a,p.size<=a+k->C a 0<=18* (p.size-a):=by
  intro k
  induction k with
  |zero=>intro a b;rw[h.zero a 0 b];exact Nat.zero_le _
  |succ k c=>
   intro a b;by_cases d:a<p.size
   ·have e:=h.bin a 0 d oO;have f:=c (a+1) oO;omega
   ·rw[h.zero a 0 oO];exact Nat.zero_le _
 exact key p.size a oO
theorem cj.LG {p:ByteArray} {C:Nat->Nat->Nat} (h:cj p C) (a m:Nat) (i:m<5):C a m<=9+C a 0:=by
 by_cases c:a<p.size
 ·have d:=h.fQ a 4 14 c oO oO oK;have e1:modeF 4 14=0:=oK;have e2:modeF 1 30=4:=oK;have e3:modeF 2 29=0:=oK;have e4:modeF 3 31=0:=oK;have e:aj 4=4:=rfl;have w1:aj 1=5:=rfl;have w2:aj 2=5:=rfl;have f:aj 3=5:=rfl;rw[e1,e]at d;have g:m=0\/m=1\/m=2\/m=3\/m=4:=oO;rcases g with rfl|rfl|rfl|rfl|rfl
  ·omega
  ·have b:=h.fQ a 1 30 c oO oO oK;rw[e2,w1]at b;omega
  ·have b:=h.fQ a 2 29 c oO oO oK;rw[e3,w2]at b;omega
  ·have b:=h.fQ a 3 31 c oO oO oK;rw[e4,f]at b;omega
  ·omega
 ·rw[h.zero a m oO];omega
theorem cj.fin {p:ByteArray} {C:Nat->Nat->Nat} (c:p.size<=4096) (h:cj p C) (a m:Nat) (b:m<5):C a m<1073741824:=by
 have d:=h.LG a m b;have e:=h.up a;omega
structure FP (p:ByteArray) (a m:Nat) (b:an):Prop where
 nm:b.num<32
 s1:-1<=b.sec
 s2:b.sec<32
 rn:a+b.run<=p.size
 lg:0<b.run->b.long=true->31<=b.run
 sr:0<=b.sec->b.run=0
 ln:(bB p a m b).length=b.size
theorem uT:∀m,m<5->∀n,n<32->cf m n=3->aj (modeF m n)=5:=of_decide_eq_true oK
def nW (p:ByteArray) (num a m:Nat) (b:an):Prop:=b.run=0\/(b=⟨num,-1,b.run,b.long,(if b.long=true then aj m+16 else aj m+5)+8* b.run,a+b.run,m⟩/\0<b.run/\a+b.run<=p.size/\(b.long=true->31<=b.run))
theorem wK {C:Nat->Nat->Nat} {p:ByteArray} {num at_ m:Nat} {best:an} {n:Nat} {lg:Bool} (hb:nW p num at_ m best) (hn:0<n) (b:at_+n<=p.size) (hl:lg=true->31<=n):nW p num at_ m (cH C num at_ m best n (if lg=true then aj m+16 else aj m+5) lg):=by
 obtain⟨sz,a⟩:∃sz,sz=(if lg=true then aj m+16 else aj m+5):=⟨_,rfl⟩;rw[<-a];unfold cH;split
 ·exact .inr ⟨by show(⟨num,-1,n,lg,sz+8* n,at_+n,m⟩:an)=⟨num,-1,n,lg,(if lg=true then aj m+16 else aj m+5)+8* n,at_+n,m⟩;rw[<-a],hn,b,hl⟩
 ·exact hb
theorem uU {C:Nat->Nat->Nat} {p:ByteArray} {num at_ m:Nat}:∀k,(at_+30+k<=p.size\/k=0)->nW p num at_ m (cJ C num at_ m k)
 |0,_=> .inl rfl
 |k+1,h=>wK (lg:=true) (uU k oO) oO oO (λ_=>by omega)
theorem sR {C:Nat->Nat->Nat} {p:ByteArray} {num at_ m K:Nat} (a:at_+30+K<=p.size\/K=0):∀k,at_+k<=p.size->nW p num at_ m (bO C num at_ m K k)
 |0,_=>uU K a
 |k+1,h=>wK (lg:=false) (sR a k oO) oO oO (λe=>by cases e)
theorem fR {C:Nat->Nat->Nat} {p:ByteArray} {num a m:Nat} (c:a<p.size):nW p num a m (cR C num a m (p.size-a))/\(cR C num a m (p.size-a)).run≠0:=by
 refine⟨sR oO _ oO,?_⟩;unfold cR;obtain⟨k,b⟩:∃k,min (p.size-a) 31=k+1:=⟨min (p.size-a) 31-1,by omega⟩;rw[b];exact jZ oO
theorem nW.st {p:ByteArray} {num a m:Nat} {b:an} (h:nW p num a m b) (c:b.run≠0) (hn:num<32):FP p a m b:=by
 rcases h with h|⟨e,d,f,g⟩
 ·exact absurd h c
 ·have k:b.sec=-1:=by rw[e]
  have i:b.num=num:=by rw[e]
  have j:b.size=(if b.long=true then aj m+16 else aj m+5)+8* b.run:=by rw[e]
  refine⟨by rw[i];exact hn,by omega,by omega,f,λ_=>g,λh=>by omega,?_⟩;rw[j];unfold bB gj;rw[if_neg oO,if_pos d,List.append_nil];simp only[List.length_append,bm,oW];split
  ·simp only[List.length_append,bm];omega
  ·simp only[bm];omega
theorem Js {C:Nat->Nat->Nat} {p:ByteArray} {a m n:Nat} (d:a<p.size) (e:m<5) (hn:n<32) {c:an} (b:c∈bC C p a m n):FP p a m c:=by
 have plain:∀(at_ md:Nat),FP p a m ⟨n,-1,0,false,aj m,at_,md⟩:=λat_ md=>by
  refine⟨hn,by show(-1:Int)<=-1;omega,by show(-1:Int)<32;omega,by show a+0<=_;omega,λh=>(by cases h),λh=>rfl,?_⟩;show(aH n (aj m)++(if(0:Int)<=-1 then aH (-1:Int).toNat 5 else[])++[]).length=aj m;rw[if_neg oO];simp[bm]
 unfold bC at b;split at b
 ·split at b
  ·rw[List.mem_singleton]at b;subst b;exact plain _ _
  ·cases b
 split at b
 ·rw[List.mem_singleton]at b;subst b;exact plain _ _
 split at b
 ·rename_i f
  have g:=uT m e n hn f;have key:∀k,k<=32->c∈optSK p a m n (modeF m n) k->FP p a m c:=by
   intro k
   induction k with
   |zero=>intro _ h;cases h
   |succ k i=>
    intro j h;unfold optSK at h;rw[List.mem_append]at h;rcases h with h|h
    ·exact i oO h
    ·unfold eW at h;split at h
     ·rw[List.mem_singleton]at h;subst h;refine⟨hn,by show(-1:Int)<=(k:Int);omega,by show(k:Int)<32;omega,by show a+0<=_;omega,λh=>(by cases h),λh=>rfl,?_⟩;show(aH n (aj m)++(if(0:Int)<=(k:Int)then aH (k:Int).toNat 5 else[])++[]).length=aj m+aj (modeF m n);rw[if_pos oO,g];simp[bm]
     ·cases h
  exact key 32 (Nat.le_refl _) b
 split at b
 ·rw[List.mem_singleton]at b;subst b;exact(fR d).1.st (fR d).2 hn
 ·cases b
theorem CX {C:Nat->Nat->Nat} {p:ByteArray} {a m:Nat} (c:a<p.size) (d:m<5) {b:an}:∀k,k<=32->b∈bF C p a m k->FP p a m b:=by
 intro k
 induction k with
 |zero=>intro _ h;cases h
 |succ k e=>
  intro f h;unfold bF at h;rw[List.mem_append]at h;rcases h with h|h
  ·exact e oO h
  ·exact Js c d oO h
theorem cj.step {p:ByteArray} {C:Nat->Nat->Nat} (i:p.size<=4096) (h:cj p C) (a m:Nat) (g:a<p.size) (e:m<5):∃b,cB C p a m=some b/\b∈bF C p a m 32/\KU p C a m b:=by
 obtain⟨l,n,o⟩:∃b∈bF C p a m 32,b.aG C=C a m:=by
  rcases(h.fix a g).2 m e with j|j
  ·have:=h.fin i a m e;omega
  ·exact j
 cases d:cB C p a m with
 |none=>
  unfold cB at d;rw[List.find?_eq_none]at d;exact absurd (by rw[o];simp) (d l n)
 |some b=>
  unfold cB at d;have f:=List.mem_of_find?_eq_some d;have r:=List.find?_some d;have q:b.aG C=C a m:=by simpa using r
  have k:=pg g i e 32 f;have c:=CX g e 32 (Nat.le_refl _) f;exact⟨b,rfl,f,⟨k.1,k.2.1,q.symm,qO 32 f,c.nm,c.s1,c.s2,c.rn,c.lg,c.sr,Nat.le_of_eq c.ln⟩⟩
def pC (p:ByteArray) (C:Nat->Nat->Nat):List Bool:=fB p (cB C p) (C 0 0) 0 0
theorem tI (A:Option Addr) (n c:Nat) (l:List UInt8) (w:World) (hb:SR vU 0 w A n c l) (hn:n<=4096):
 Calls Tryz.prog 30 #[.slice A n c] w λe w'=>∃C,cj ⟨l.toArray⟩ C/\RT vB false w (pC ⟨l.toArray⟩ C,0) e w':=by
 obtain⟨p,j⟩:∃p:ByteArray,p=⟨l.toArray⟩:=⟨_,rfl⟩;have s:n=p.size:=by rw[hb.hn,j];show l.length=l.toArray.size;simp
 have k:=Lib.hid s;have o:=xo A n c l w hb hn;rw[<-j]at o⊢;have J:=Lib.hid o;clear hb s o j;go_enter Tryz.func30,Tryz.ntmps30
 go_wp2_with(first
  |(go_at_call 80;refine J.out.mono ?_;rintro e z ⟨B,D,cap,hb,C,Q,rfl,hq,r,g,i,t⟩;have q:cj p C:=⟨λa b=>(g a (by rw[k.out];exact b)).1,λa m b=>i a m (by rw[k.out];exact b),hq.S.b⟩;have K:=Lib.hid q;have u:=Lib.hid t;have L:=Lib.hid (Ix z B D cap hb _ p C (cB C p) hq (r.th (Nat.le_refl _) (λa m f _ v d=>(by
   by_cases b:a<n
   ·rw[(g a b).2 m];exact d
   ·exfalso;unfold cB at d;have P:=List.mem_of_find?_eq_some d;have E:0<C a m:=(by have F:=List.find?_some d;have M:f.aG C=C a m:=(by simpa using F);have:=qO 32 P;unfold an.aG at M;omega);rw[i a m oO]at E
    omega))) (λa m b v=>(by obtain⟨f,G,_,H⟩:=q.step (by rw[<-k.out];exact hn) a m b v;exact⟨f,G,H⟩)));clear hq r g i t q)
  |(go_at_call 81;refine L.out.mono ?_;rintro e S ⟨T,rfl,x,y⟩;have N:=Lib.hid x;have O:=Lib.hid y;clear x y))
 go_ret2
 exact⟨C,K.out,RT.mk rfl N.out (u.out.trans (O.out.mono u.out.size))⟩
def Tag (w:World) (b:Nat) (a:TypeId):Prop:=∃c:Array Value,w.heap[b]?=some (.cells c a (0,0))
theorem Tag.ne {w:World} {a b:Nat} {f u:TypeId} (d:Tag w a f) (c:Tag w b u) (i:f≠u):a≠b:=by
 intro e;subst e;obtain⟨c1,d⟩:=d;obtain⟨j,c⟩:=c;rw[d]at c;injection c with c;injection c with _ g _;exact i g
theorem aa.tag {w:World} {b:Nat} {c:Array Value} {a:TypeId} (h:aa w b c a):Tag w b a:=⟨c,h⟩
theorem CP {w:World} {base:Nat} {e:TypeId} {v:Value} {n q:Nat} {xs:List Value} (h:w.ownsRow base e 1 v n xs) (hq:v.ownBlock=some q):Tag w q e:=by
 rcases h.2 with⟨rfl,_⟩|⟨g,cap,a,rfl,_,hg,_⟩
 ·cases hq
 ·simp only[Value.ownBlock,Option.some.injEq]at hq;subst hq;exact⟨a,hg⟩
section
variable {n : Nat} {w wr W : World} {db rb : Nat} {b0 b : List Bool} {mode : Nat} {out : List UInt8}
theorem z6 {base:Nat} {e:TypeId} {v:Value} {k:Nat} {xs:List Value} (h:wr.ownsRow base e 1 v k xs) (a:Addr) {d:TypeId} (j:Tag wr a.block d) (o:d≠e) (u:Value):(wr.setCell a u).ownsRow base e 1 v k xs:=by
 refine⟨h.1,?_⟩;rcases h.2 with c|⟨g,cap,i,l,c,f,m⟩
 ·exact .inl c
 ·refine .inr ⟨g,cap,i,l,c,(Below.heap_setCell _ _ _ _ ?_).trans f,m⟩;exact(Tag.ne j ⟨i,f⟩ o).symm
end
theorem xY:Tryz.prog.underlying 26=some (.slice (Tryz.prog.elem 26)):=oK
theorem Ec (w:World):(sizeOf (Tryz.prog.elem 26)).run Tryz.prog w= .ok 1 w:=oK
end
section
open Go.RowKit
theorem Gm (x y i:Nat) (a:y<=1):fP (2* x+y) (i+1)=fP x i:=by
 unfold fP;have e:(2* x+y)/2^(i+1)=x/2^i:=by
  rw[Nat.pow_succ,Nat.mul_comm (2^i) 2,<-Nat.div_div_eq_div_mul];congr 1;omega
 rw[e]
theorem Fa (x y:Nat) (a:y<=1):fP (2* x+y) 0=(y==1):=by
 unfold fP;rw[Nat.pow_zero,Nat.div_one];have e:(2* x+y)%2=y:=oO;rw[e]
theorem wk (x y j:Nat) (a:y<=1):∀k,k<=j->lowF (2* x+y) (j+1) k=lowF x j k
 |0,_=>rfl
 |k+1,h=>by
  show lowF _ _ k++[fP _ (j+1-1-k)]=lowF _ _ k++[fP _ (j-1-k)];rw[wk x y j a k oO,show j+1-1-k=(j-1-k)+1 from by omega,Gm _ _ _ a]
theorem nL (x y j:Nat) (a:y<=1):aH (2* x+y) (j+1)=aH x j++[y==1]:=by
 show lowF _ _ j++[fP _ (j+1-1-j)]=_;rw[wk x y j a j (Nat.le_refl _),show j+1-1-j=0 from by omega,Fa _ _ a];rfl
def iq (b:List Bool) (k j:Nat):List Bool:=(List.range j).map λi=>b.getD (k+i) true
theorem oq (b:List Bool) (k j:Nat):iq b k (j+1)=iq b k j++[b.getD (k+j) true]:=by
 unfold iq;rw[List.range_succ,List.map_append];rfl
theorem zu (b:List Bool) (k j:Nat):∀i,iq b k (j+i)=iq b k j++iq b (k+j) i
 |0=>by show iq b k j=_++[];rw[List.append_nil]
 |i+1=>by
  rw[<-Nat.add_assoc,oq,oq,zu b k j i,List.append_assoc,Nat.add_assoc]
theorem yW (b:List Bool) (k:Nat):(dO b k==1)=b.getD k true:=by
 unfold dO;by_cases h:k<b.length
 ·simp only[List.getD_eq_getElem?_getD,List.getElem?_eq_getElem h,Option.getD_some];cases b[k]<;>simp[h]
 ·have e:b.getD k true=true:=by rw[List.getD_eq_getElem?_getD,List.getElem?_eq_none oO];rfl
  rw[if_neg (λa=>h a.1),e];rfl
theorem zT (b:List Bool) (k:Nat):∀j,aH (sfV b k j) j=iq b k j
 |0=>rfl
 |j+1=>by
  show aH (2* sfV b k j+dO b (k+j)) (j+1)=_;rw[nL _ _ _ (mQ b _),zT b k j,oq,yW]
theorem Jv (a:Nat):2^(a+1)=2* 2^a:=by rw[Nat.pow_succ,Nat.mul_comm]
theorem Hb (b:List Bool) (s k:Nat) (hs:2<=s):1<=(eV b s k).1/\(eV b s k).1<2^s-1/\k+(s-1)<=(eV b s k).2/\(eV b s k).2<=k+s/\pn s (eV b s k).1=iq b k ((eV b s k).2-k):=by
 obtain⟨a,rfl⟩:∃a,s=a+1:=⟨s-1,by omega⟩;have l:=An b k a;have f:=zT b k a;have i:2<=2^a:=by
  have:=Nat.pow_le_pow_right (n:=2) oO (show 1<=a by omega);simpa using this
 have e2:=Jv a;have g:(2^(a+1)-1)/2=2^a-1:=oO;unfold eV;rw[Nat.add_sub_cancel];generalize j:sfV b k a=v at*;by_cases c:v=0
 ·rw[if_pos c];refine⟨Nat.le_refl _,by show 1<_;omega,Nat.le_refl _,by show k+a<=_;omega,?_⟩;show pn (a+1) 1=iq b k (k+a-k);rw[Nat.add_sub_cancel_left,<-f,c];unfold pn;rw[if_pos (.inl rfl)];rfl
 ·rw[if_neg c];by_cases d:v=2^a-1
  ·rw[if_pos d];refine⟨by show 1<=2* v;omega,by show 2* v<_;omega,Nat.le_refl _,by show k+a<=_;omega,?_⟩;show pn (a+1) (2* v)=iq b k (k+a-k);rw[Nat.add_sub_cancel_left,<-f];unfold pn;have e:2* v/2=v:=oO;rw[e,if_pos (.inr (by rw[g];exact d))];rfl
  ·rw[if_neg d];have hb:=mQ b (k+a);refine⟨by show 1<=2* v+_;omega,by show 2* v+_<_;omega,by show k+a<=k+(a+1);omega,Nat.le_refl _,?_⟩;show pn (a+1) (2* v+dO b (k+a))=iq b k (k+(a+1)-k);rw[Nat.add_sub_cancel_left];unfold pn;have e:(2* v+dO b (k+a))/2=v:=oO;rw[e,if_neg (by rw[g];omega),nL _ _ _ hb,f,oq,yW]
theorem uj (b:List Bool) (s:Nat) (hs:2<=s):∀(f k:Nat),b.length<=f+k->k<b.length+s->
 (∀x∈stuffFrom b s f k,1<=x/\x<2^s-1)/\(stuffFrom b s f k).length<=b.length-k/\
 (k<b.length->(stuffFrom b s f k).length* (s-1)+k<=b.length+s-2)/\
 ∃e,b.length<=e/\e<b.length+s/\k<=e/\((stuffFrom b s f k).map (pn s)).flatten=iq b k (e-k)/\e-k<=(stuffFrom b s f k).length* s
 |0,k,g,c=>by
  refine⟨λx a=>(by cases a),Nat.zero_le _,λh=>absurd h oO,k,by omega,c,Nat.le_refl _,?_,by simp⟩;rw[Nat.sub_self];rfl
 |f+1,k,g,c=>by
  by_cases d:k<b.length
  ·have i:=Hb b s k hs;have e1:stuffFrom b s (f+1) k=(eV b s k).1::stuffFrom b s f (eV b s k).2:=by
    show(if k<b.length then _ else _)=_;rw[if_pos d]
   obtain⟨w1,w2,u,v,j⟩:=i;generalize eV b s k=q at*;obtain⟨l,w,m,e,n,o,y,p,i8⟩:=uj b s hs f q.2 oO oO;rw[e1];generalize stuffFrom b s f q.2=r at*;refine⟨λx a=>?_,?_,λ_=>?_,e,n,o,by omega,?_,?_⟩
   ·rcases List.mem_cons.1 a with rfl|a
    ·exact⟨w1,w2⟩
    ·exact l x a
   ·rw[List.length_cons];omega
   ·rw[List.length_cons,Nat.succ_mul];by_cases h:q.2<b.length
    ·have:=m h;omega
    ·have t:r.length=0:=oO;rw[t];omega
   ·rw[List.map_cons,List.flatten_cons,p,j,show e-k=(q.2-k)+(e-q.2)from by omega,zu,show k+(q.2-k)=q.2 from by omega]
   ·rw[List.length_cons,Nat.succ_mul];omega
  ·rw[rB b s (f+1) k oO];refine⟨λx a=>(by cases a),Nat.zero_le _,λh=>absurd h d,k,by omega,c,Nat.le_refl _,?_,by simp⟩;rw[Nat.sub_self];rfl
theorem yx (s:Nat) (a:List Int):∀k,k<=a.length->ED s a k=((a.take k).map λw=>pn s w.toNat).flatten
 |0,_=>rfl
 |k+1,h=>by
  show ED s a k++pn s (a.getD k 0).toNat=_;rw[yx s a k oO,List.take_add_one,List.getElem?_eq_getElem oO,List.map_append,List.flatten_append];congr 1;rw[List.getD_eq_getElem?_getD,List.getElem?_eq_getElem oO];simp
def zN (l:List Nat):List Int:=l.map λx:Nat=>(x:Int)
theorem Kj (l:List Nat):(zN l).length=l.length:=by simp[zN]
theorem KX (s:Nat) (l:List Nat):ED s (zN l) (zN l).length=(l.map (pn s)).flatten:=by
 rw[yx s (zN l) _ (Nat.le_refl _),List.take_length];congr 1;unfold zN;rw[List.map_map];rfl
theorem ma (b:List Bool) (s:Nat) (hs:2<=s) (u:s<=12) (hb:b.length<=80000):∃e,b.length<=e/\e<b.length+s/\um (zN (az b s)) s=(iq b 0 e,0)/\
 b.length<=(az b s).length* s/\(az b s).length* (s-1)<=b.length+s-2/\(∀x∈az b s,1<=x/\x<2^s-1)/\(az b s).length<=b.length:=by
 obtain⟨a,c,i,e,j,k,t,l,m⟩:=uj b s hs b.length 0 oO oO;refine⟨e,j,k,?_,?_,?_,a,by have n:(az b s).length<=b.length-0:=c;omega⟩
 ·have hl:(az b s).length<=b.length:=c;have q:KI s (zN (az b s))=true:=by
   unfold KI;rw[List.all_eq_true];intro x d;obtain⟨y,f,rfl⟩:=List.mem_map.1 d;have:=a y f;rw[decide_eq_true oO,decide_eq_true oO];rfl
  have r:okW s (zN (az b s))=true:=by
   unfold okW;rw[List.all_eq_true];intro x d;obtain⟨y,f,rfl⟩:=List.mem_map.1 d;have:=a y f;rw[beq_eq_false_iff_ne.2 oO,beq_eq_false_iff_ne.2 oO];rfl
  have hq:¬1048576/(s:Int)<((zN (az b s)).length:Int):=by
   rw[Kj];have n:(87381:Int)<=1048576/(s:Int):=(Int.le_ediv_iff_mul_le oO).2 oO;omega
  unfold um;rw[if_neg oO,if_neg (by rw[show((s:Nat):Int).toNat=s from rfl,q];simp),if_neg hq,if_neg (by rw[show((s:Nat):Int).toNat=s from rfl,r];simp)];rw[show((s:Nat):Int).toNat=s from rfl,KX];have g:=l;rw[Nat.sub_zero]at g;rw[show((az b s).map (pn s)).flatten=iq b 0 e from g]
 ·have v:e-0<=(az b s).length* s:=m;omega
 ·by_cases o:0<b.length
  ·have:=i o;exact this
  ·have p:(az b s).length=0:=by
    have:(az b s).length<=b.length-0:=c;omega
   rw[p];omega
end
section
open Go.RowKit Go.WideMaps Go.Maps
inductive Atom (p:ByteArray) (a m:Nat):an->Prop
 |chars (n:Nat):n<32->cf m n=1->preB p a (cW m n)=true->Atom p a m ⟨n,-1,0,false,aj m,a+(cW m n).size,m⟩
 |fQ (n:Nat):n<32->cf m n=2->Atom p a m ⟨n,-1,0,false,aj m,a,modeF m n⟩
 |shift (n s:Nat):n<32->cf m n=3->s<32->cf (modeF m n) s=1->preB p a (cW (modeF m n) s)=true->Atom p a m ⟨n,(s:Int),0,false,aj m+aj (modeF m n),a+(cW (modeF m n) s).size,m⟩
 |short (n j:Nat):n<32->cf m n=4->1<=j->j<=31->a+j<=p.size->Atom p a m ⟨n,-1,j,false,aj m+5+8* j,a+j,m⟩
 |long (n j:Nat):n<32->cf m n=4->31<=j->j<=2078->a+j<=p.size->Atom p a m ⟨n,-1,j,true,aj m+16+8* j,a+j,m⟩
theorem GN {p:ByteArray} {a m n:Nat} {b:an} (hn:n<32) (c:cf m n=4) (h:nW p n a m b) (g:b.run≠0) (hs:b.long=false->b.run<=31) (hl:b.run<=2078):Atom p a m b:=by
 rcases h with h|⟨e,i,d,j⟩
 ·exact absurd h g
 ·rw[e];cases f:b.long with
  |true=>
   have:=Atom.long (p:=p) (a:=a) (m:=m) n b.run hn c (j f) hl d;simpa using this
  |false=>
   have:=Atom.short (p:=p) (a:=a) (m:=m) n b.run hn c i (hs f) d;simpa using this
def uc (a:an):Prop:=(a.long=false->a.run<=31)/\a.run<=2078
theorem uX {C:Nat->Nat->Nat} {num at_ m:Nat} {best:an} {n sz:Nat} {lg:Bool} (hb:uc best) (a:lg=false->n<=31) (b:n<=2078):uc (cH C num at_ m best n sz lg):=by
 unfold cH;split
 ·exact⟨a,b⟩
 ·exact hb
theorem sH {C:Nat->Nat->Nat} {num at_ m:Nat}:∀k,k<=2048->uc (cJ C num at_ m k)
 |0,_=>⟨λ_=>Nat.zero_le _,Nat.zero_le _⟩
 |k+1,h=>uX (sH k oO) (λe=>by cases e) oO
theorem qN {C:Nat->Nat->Nat} {num at_ m K:Nat} (a:K<=2048):∀k,k<=31->uc (bO C num at_ m K k)
 |0,_=>sH K a
 |k+1,h=>uX (qN a k oO) (λ_=>by omega) oO
theorem Bx {C:Nat->Nat->Nat} {p:ByteArray} {n a m:Nat} (c:a<p.size) (hn:n<32) (d:cf m n=4):Atom p a m (cR C n a m (p.size-a)):=by
 obtain⟨e,f⟩:=fR (C:=C) (num:=n) (m:=m) c;have b:uc (cR C n a m (p.size-a)):=qN oO _ oO;exact GN hn d e f b.1 b.2
theorem nR {p:ByteArray} {a m n md:Nat} {b:an}:∀k,b∈optSK p a m n md k->∃s,s<k/\b∈eW p a m n md s
 |0,h=>by cases h
 |k+1,h=>by
  unfold optSK at h;rw[List.mem_append]at h;rcases h with h|h
  ·obtain⟨s,d,c⟩:=nR k h;exact⟨s,by omega,c⟩
  ·exact⟨k,by omega,h⟩
theorem nN {p:ByteArray} {a m n md s:Nat} {b:an} (h:b∈eW p a m n md s):∀k,s<k->b∈optSK p a m n md k
 |0,c=>by omega
 |k+1,c=>by
  unfold optSK;rw[List.mem_append];by_cases e:s=k
  ·subst e;exact .inr h
  ·exact .inl (nN h k oO)
theorem rl {C:Nat->Nat->Nat} {p:ByteArray} {a m n:Nat} (e:a<p.size) (hn:n<32) {c:an} (b:c∈bC C p a m n):Atom p a m c:=by
 unfold bC at b;split at b
 ·split at b
  ·rw[List.mem_singleton]at b;subst b;exact .chars n hn (by assumption) (by assumption)
  ·cases b
 split at b
 ·rw[List.mem_singleton]at b;subst b;exact .fQ n hn (by assumption)
 split at b
 ·rename_i f
  obtain⟨s,hs,h⟩:=nR 32 b;unfold eW at h;split at h
  ·rename_i d
   rw[List.mem_singleton]at h;subst h;exact .shift n s hn f hs d.1 d.2
  ·cases h
 split at b
 ·rw[List.mem_singleton]at b;subst b;exact Bx e hn (by assumption)
 ·cases b
theorem x5 {C:Nat->Nat->Nat} {p:ByteArray} {a m:Nat} {b:an}:∀k,b∈bF C p a m k->∃n,n<k/\b∈bC C p a m n
 |0,h=>by cases h
 |k+1,h=>by
  unfold bF at h;rw[List.mem_append]at h;rcases h with h|h
  ·obtain⟨s,d,c⟩:=x5 k h;exact⟨s,by omega,c⟩
  ·exact⟨k,by omega,h⟩
theorem wU {C:Nat->Nat->Nat} {p:ByteArray} {a m:Nat} (c:a<p.size) {b:an} (d:b∈bF C p a m 32):Atom p a m b:=by
 obtain⟨n,hn,h⟩:=x5 32 d;exact rl c hn h
theorem Atom.opt {C:Nat->Nat->Nat} {p:ByteArray} {a m:Nat} (o:a<p.size) {c:an} (h:Atom p a m c):∃g∈bC C p a m c.num,g.aG C<=c.aG C/\(c.run=0->g=c):=by
 cases h with
 |chars n hn b d=>
  refine⟨_,?_,Nat.le_refl _,λ_=>rfl⟩;show _∈bC C p a m n;unfold bC;rw[if_pos b,if_pos d];exact List.mem_singleton.2 rfl
 |fQ n hn b=>
  refine⟨_,?_,Nat.le_refl _,λ_=>rfl⟩;show _∈bC C p a m n;unfold bC;rw[b,if_neg oO,if_pos rfl];exact List.mem_singleton.2 rfl
 |shift n s hn b hs l d=>
  refine⟨_,?_,Nat.le_refl _,λ_=>rfl⟩;show _∈bC C p a m n;unfold bC;rw[b,if_neg oO,if_neg oO,if_pos rfl];refine nN (s:=s) ?_ 32 hs;unfold eW;rw[if_pos ⟨l,d⟩];exact List.mem_singleton.2 rfl
 |short n j hn b f i k=>
  refine⟨cR C n a m (p.size-a),?_,nQ _ _ f oO,λe=>by simp only at e;omega⟩;show _∈bC C p a m n;unfold bC;rw[b,if_neg oO,if_neg oO,if_neg oO,if_pos rfl];exact List.mem_singleton.2 rfl
 |long n j hn b f i k=>
  refine⟨cR C n a m (p.size-a),?_,?_,λe=>by simp only at e;omega⟩
  ·show _∈bC C p a m n;unfold bC;rw[b,if_neg oO,if_neg oO,if_neg oO,if_pos rfl];exact List.mem_singleton.2 rfl
  ·exact Nat.le_trans (mD oO _).1 (pt _ _ f oO)
theorem Atom.ph {p:ByteArray} {a m:Nat} {b:an} (h:Atom p a m b):b.num<32:=by cases h<;>assumption
theorem Atom.size_pos {p:ByteArray} {a m:Nat} {b:an} (h:Atom p a m b):4<=b.size:=by
 have:=tK m;cases h<;>simp only<;>omega
theorem Atom.Eb {p:ByteArray} {a m:Nat} (i:a<p.size) {e:an} (h:Atom p a m e):e.at_<=p.size:=by
 cases h with
 |chars n hn b c=>exact rX c oO
 |fQ n hn b=>show a<=_;omega
 |shift n s hn b hs k c=>exact rX c oO
 |short n j hn b f g d=>exact d
 |long n j hn b f g d=>exact d
theorem Atom.Je {p:ByteArray} {a m:Nat} {b:an} (h:Atom p a m b):a<=b.at_:=by
 cases h<;>simp only<;>omega
theorem Atom.mO {p:ByteArray} {a m:Nat} (c:m<5) {b:an} (h:Atom p a m b):b.mode<5:=by
 cases h<;>simp only<;>first|exact pJ _ _|exact c
structure jP (p:ByteArray) (C:Nat->Nat->Nat):Prop where
 le:∀a m,a<p.size->m<5->∀b,Atom p a m b->C a m<=b.aG C
 ex:∀a m,a<p.size->m<5->∃b,Atom p a m b/\b.aG C=C a m
 zero:∀a m,p.size<=a->C a m=0
theorem cj.ac {p:ByteArray} {C:Nat->Nat->Nat} (i:p.size<=4096) (h:cj p C):jP p C:=by
 refine⟨λa m b c f g=>?_,λa m b c=>?_,h.zero⟩
 ·obtain⟨j,d,e,_⟩:=g.opt (C:=C) b;exact Nat.le_trans ((h.fix a b).1 m c j (jV d 32 g.ph)) e
 ·rcases(h.fix a b).2 m c with d|⟨f,d,e⟩
  ·have:=h.fin i a m c;omega
  ·exact⟨f,wU b d,e⟩
theorem jP.ur {p:ByteArray} {C C':Nat->Nat->Nat} (h:jP p C) (i:jP p C') (a:Nat) (g:a<p.size) (j:∀a' m,a<a'->m<5->C a' m=C' a' m):∀x m,m<5->C' a m=x->C a m<=C' a m:=by
 intro x
 induction x using Nat.strongRecOn with
 |ind x k=>
  intro m c l;obtain⟨f,b,e⟩:=i.ex a m g c;refine Nat.le_trans (h.le a m g c f b) ?_;rw[<-e];unfold an.aG at e⊢;refine Nat.add_le_add_left ?_ _;have n:=b.size_pos;rcases Nat.eq_or_lt_of_le b.Je with d|d
  ·rw[<-d];rw[<-d]at e;exact k (C' a f.mode) oO f.mode (b.mO c) rfl
  ·rw[j _ _ d (b.mO c)];exact Nat.le_refl _
theorem jP.uniq {p:ByteArray} {C C':Nat->Nat->Nat} (h:jP p C) (c:jP p C') (a m:Nat) (d:m<5):C a m=C' a m:=by
 have key:∀k a,p.size<=a+k->∀m,m<5->C a m=C' a m:=by
  intro k
  induction k with
  |zero=>intro a b m _;rw[h.zero a m b,c.zero a m b]
  |succ k i=>
   intro a j m d;by_cases b:a<p.size
   ·have g:∀a' m,a<a'->m<5->C a' m=C' a' m:=λa' m f e=>i a' oO m e;exact Nat.le_antisymm (h.ur c a b g _ m d rfl) (c.ur h a b (λa' m f e=>(g a' m f e).symm) _ m d rfl)
   ·rw[h.zero a m oO,c.zero a m oO]
 exact key p.size a oO m d
def GR (p:ByteArray) (C:Nat->Nat->Nat) (a:Nat):Bool:=(List.range 5).all λm=>(bF C p a m 32).all (λb=>decide (C a m<=b.aG C))&&(bF C p a m 32).any (λb=>b.aG C==C a m)
theorem kG.KQ {p:ByteArray} {C:Nat->Nat->Nat} {a:Nat} (h:GR p C a=true):kG C p a:=by
 unfold GR at h;rw[List.all_eq_true]at h;refine⟨λm d c e=>?_,λm d=> .inr ?_⟩
 ·have b:=h m (List.mem_range.2 d);rw[Bool.and_eq_true,List.all_eq_true]at b;exact of_decide_eq_true (b.1 c e)
 ·have b:=h m (List.mem_range.2 d);rw[Bool.and_eq_true,List.any_eq_true]at b;obtain⟨c,e,f⟩:=b.2;exact⟨c,e,by simpa using f⟩
def zy (l:List (List Nat)) (a m:Nat):Nat:=(l.getD a []).getD m 0
theorem Jz {l:List Nat} {B:Nat} (h:l.all (λx=>decide (x<=B))=true) (m:Nat):l.getD m 0<=B:=by
 rw[List.all_eq_true]at h;by_cases a:m<l.length
 ·have:=h l[m] (List.getElem_mem a);simp only[List.getD,List.getElem?_eq_getElem a,Option.getD_some];exact of_decide_eq_true this
 ·simp only[List.getD,List.getElem?_eq_none (show l.length<=m by omega),Option.getD_none];omega
theorem Be {p:ByteArray} {l:List (List Nat)} (hl:l.length=p.size) (hb:l.all (λr=>r.all (λx=>decide (x<=1073741824)))=true) (hc:(List.range l.length).all (GR p (zy l))=true):cj p (zy l):=by
 refine⟨λa b=>?_,λa m b=>?_,λa m=>?_⟩
 ·rw[List.all_eq_true]at hc;exact kG.KQ (hc a (List.mem_range.2 oO))
 ·have e:l.getD a []=[]:=by rw[List.getD_eq_getElem?_getD,List.getElem?_eq_none oO];rfl
  unfold zy;rw[e];simp
 ·unfold zy;rw[List.all_eq_true]at hb;by_cases b:a<l.length
  ·have e:l.getD a []=l[a]:=by rw[List.getD_eq_getElem?_getD,List.getElem?_eq_getElem b];rfl
   rw[e];exact Jz (hb l[a] (List.getElem_mem b)) m
  ·have e:l.getD a []=[]:=by rw[List.getD_eq_getElem?_getD,List.getElem?_eq_none oO];rfl
   rw[e];simp
theorem yv {p:ByteArray} {C C':Nat->Nat->Nat} (c:p.size<=4096) (h:∀a m,m<5->C a m=C' a m) (a m:Nat) (d:a<p.size) (b:m<5):cB C p a m=cB C' p a m:=by
 unfold cB;rw[oE (C:=C) (C':=C') (λa' _=>h a' m b) 32];refine find_congr λf e=>?_;unfold an.aG;rw[h _ _ (pg d c b 32 e).2.1,h a m b]
theorem DY {p:ByteArray} {C:Nat->Nat->Nat} (d:p.size<=4096) {a m:Nat} (e:a<p.size) (f:m<5) {b:an} (h:cB C p a m=some b):b.mode<5/\b∈bF C p a m 32/\b.aG C=C a m:=by
 unfold cB at h;have c:=List.mem_of_find?_eq_some h;have g:=List.find?_some h;exact⟨(pg e d f 32 c).2.1,c,by simpa using g⟩
theorem DI {p:ByteArray} {c d:Nat->Nat->Option an} (h:∀a m,a<p.size->m<5->c a m=d a m) (i:∀a m b,a<p.size->m<5->c a m=some b->b.mode<5):∀f a m,m<5->fB p c f a m=fB p d f a m:=by
 intro f
 induction f with
 |zero=>intro a m _;rfl
 |succ f j=>
  intro a m g;show(if a<p.size then(match c a m with|some b=>bB p a m b++fB p c f b.at_ b.mode|none=>[])else[])=(if a<p.size then(match d a m with|some b=>bB p a m b++fB p d f b.at_ b.mode|none=>[])else[]);split
  ·rename_i e
   rw[<-h a m e g];cases hs:c a m with
   |none=>rfl
   |some b=>
    show _++_=_++_;rw[j _ _ (i a m b e g hs)]
  ·rfl
theorem BB {p:ByteArray} {C C':Nat->Nat->Nat} (d:p.size<=4096) (h:∀a m,m<5->C a m=C' a m) (f a m:Nat) (b:m<5):fB p (cB C p) f a m=fB p (cB C' p) f a m:=
 DI (λa m c b=>yv d h a m c b) (λa m g c b e=>(DY d c b e).1) f a m b
theorem uE {p:ByteArray} {C C':Nat->Nat->Nat} (b:p.size<=4096) (h:cj p C) (c:cj p C'):pC p C=pC p C'/\C 0 0=C' 0 0:=by
 have e:∀a m,m<5->C a m=C' a m:=λa m d=>h.uniq b c a m d;unfold pC;rw[e 0 0 oO,BB b e _ _ _ oO];exact⟨rfl,rfl⟩
abbrev pA:ByteArray:=⟨#[65]⟩
theorem Kh:cj pA (zy [[5,10,10,10,9]]):=Be rfl rfl oK
theorem K6 {C:Nat->Nat->Nat} (h:cj pA C):C 0 0=5:=(uE oD h Kh).2
end
end Go.Proofs.YtmnlkganmgcpbaaGreatDoor
