import Derived.Test.YtmnlkganmgcpbaaGreatDoorQm5
import Derived.Lib.AppendStr
set_option maxRecDepth 100000
set_option maxHeartbeats 4000000
set_option linter.unusedVariables false
set_option linter.unusedSectionVars false
set_option linter.unusedSimpArgs false
namespace Go.Proofs.YtmnlkganmgcpbaaGreatDoor
section
open Go.RowKit Go.WideMaps Go.Maps
def byF (p:ByteArray) (a:Nat):Nat->List Bool
 |0=>[]
 |k+1=>byF p a k++bh (p.data.toList.getD (a+k) 0).toNat 8
def xi (p:ByteArray) (a:Nat) (b:ay):List Bool:=if 0<b.run then(if b.long=true then bh 0 5++bh (b.run-31) 11 else bh b.run 5)++byF p a b.run else[]
def cH (p:ByteArray) (a m:Nat) (b:ay):List Bool:=bh b.num (az m)++(if 0<=b.sec then bh b.sec.toNat 5 else[])++xi p a b
def ij (p:ByteArray) (c:Nat->Nat->Option ay):Nat->Nat->Nat->List Bool
 |0,_,_=>[]
 |f+1,a,m=>if a<p.size then(match c a m with|some b=>cH p a m b++ij p c f b.at_ b.mode|none=>[])else[]
structure LG (p:ByteArray) (C:Nat->Nat->Nat) (a m:Nat) (b:ay):Prop where
 le:b.at_<=p.size
 md:b.mode<5
 eq:C a m=b.bQ C
 ps:0<b.size
 nm:b.num<32
 s1:-1<=b.sec
 s2:b.sec<32
 rn:a+b.run<=p.size
 lg:0<b.run->b.long=true->31<=b.run
 sr:0<=b.sec->b.run=0
 ln:(cH p a m b).length<=b.size
theorem nF (n:Nat) (w0 w:World) (a:Nat) (b:List Bool) (v k:Nat) (V K:Int) (c:V=(v:Int)) (d:K=(k:Int)) (h:BO n w0 w a b) (f:v<=1000000000000) (g:k<=62) (hl:b.length<=4000000000):
 Calls Tryz.prog 131 #[.int .i64 V,.int .i64 K,.pointer (some ⟨a,0,none⟩)] w λe w'=>e= .returned (.tuple #[])/\BO n w0 w' a (b++bh v k)/\iO w w':=by
 subst c d;exact CQ n w0 w a b v k h f g hl
theorem tF {a:Act} {c:Oper} {W:World} {x i:Operand} (f:c.op= .index 9 x i) {p:ByteArray} (g:a.eval x= .string p) {I:Int} (j:a.eval i= .int .i64 I) (k:Nat) (l:I=(k:Int)) (d:k<p.size):
 (execOp a.eval c).run Tryz.prog W= .ok (.value (.int .u8 ((p.data.toList.getD k 0).toNat:Int))) W:=by
 subst l;have b:=run_index_string (P:=Tryz.prog) W 9 p .i64 (k:Int) Tryz.underlying9;rw[dif_pos oO]at b
 have e:p[(k:Int).toNat]'(by simpa using d)=p.data.toList.getD k 0:=by
  have hl:k<p.data.toList.length:=by simpa using d
  rw[List.getD,List.getElem?_eq_getElem hl];rfl
 rw[e]at b;unfold execOp;simp only[f,g,j,b,Sem.run_bind,Sem.run_pure,Result.andThen_ok]
theorem sU (p:ByteArray) (a:Nat):∀k,(byF p a k).length=8* k
 |0=>rfl
 |k+1=>by unfold byF;rw[List.length_append,sU p a k,bM];omega
theorem Am {a:Act} {b:Oper} {W:World} {hb l:Nat} {c:Nat->Nat->Option ay} (h:cW W hb l c) {m x:Operand} (d:b.op= .lookup 173 m x false) (e:a.eval m= .map (some hb)) (at_ i:Nat) (f:a.eval x= .agg #[.int .i64 (at_:Int),.int .i64 (i:Int)])
 (g:at_<=4096) (j:i<5) (y:ay) (k:c at_ i=some y):(execOp a.eval b).run Tryz.prog W= .ok (.value y.val) W:=by
 have n:=h.lookup at_ i y g j k;unfold execOp;simp only[d,e,f,n,Sem.run_bind,Sem.run_pure,Result.andThen_ok]
theorem fi {d:Array Oper} {S:World->Prop} {K:Act->World->Prop} {r:List (Bool×Nat×Oper)} {k:Nat} {c:Oper} {a:Act} {W:World} (t:TypeId) (l:Region.wanted c (yielded d a.tmps)=true) (f:c.op= .alloc t) (b:Array Value) (e:(Tryz.prog.info? t).map (·.zero)=some (some (.agg b)))
 (g:S (W.alloc (.cells b t))) (j:bC Tryz.prog d S K r (a.put c.dst (.pointer (some ⟨W.heap.size,0,none⟩))) (W.alloc (.cells b t))):bC Tryz.prog d S K ((true,k,c)::r) a W:=by
 cases hq:Tryz.prog.info? t with
 |none=>simp[hq]at e
 |some i=>
  have m:i.zero=some (.agg b):=by simpa[hq]using e
  have n:(Instr.alloc t true (.tuple #[])).run Tryz.prog W= .ok (.pointer (some ⟨W.heap.size,0,none⟩)) (W.alloc (.cells b t)):=by
   simp[Instr.alloc,zeroValue,typeInfo,hq,m,newVar,newRow,Value.cells]
  refine gK l ?_ g j;unfold execOp;simp only[f,Sem.run_bind,Sem.run_pure,Result.andThen_ok,n]
theorem Cz {g:Array Oper} {S:World->Prop} {K:Act->World->Prop} {r:List (Bool×Nat×Oper)} {k:Nat} {d:Oper} {a:Act} {W:World} (f:TypeId) (u:Region.wanted d (yielded g a.tmps)=true) (p x:Operand) (j:d.op= .store f p x) (t:TypeId) (c:Array Value) (b:List Value)
 (l:a.eval p= .pointer (some ⟨W.heap.size,0,none⟩)) (m:a.eval x= .agg b.toArray) (n:(Tryz.prog.info? f).map (·.size)=some b.length) (w:b.length=c.size) (o:∀v∈b,v.oneCell'=true)
 (q:S (W.alloc (.cells b.toArray t))) (s:bC Tryz.prog g S K r (a.put d.dst undef) (W.alloc (.cells b.toArray t))):bC Tryz.prog g S K ((true,k,d)::r) a (W.alloc (.cells c t)):=by
 have i:=kn (P:=Tryz.prog) (W.alloc (.cells c t)) t f W.heap.size 0 c b (heap_alloc_new _ _) n oO o;have e:(splice c.toList 0 b).toArray=b.toArray:=by
  unfold splice;rw[List.take_zero,List.nil_append,List.drop_eq_nil_of_le (by simp[w]),List.append_nil]
 rw[e,World.setRow_alloc_new]at i;refine .inl ⟨u,?_⟩;unfold execOp;simp only[j,l,m,Instr.storeAt,Instr.sureAddr,Sem.run_bind,Sem.run_pure,Result.andThen_ok,i];exact⟨q,s⟩
theorem BO.setRow {n:Nat} {w wr:World} {f b:Nat} {i:List Bool} {r:Array Value} (h:BO n w wr f i) (hn:n<=b) (a:ae wr b r 179) (l:Array Value):BO n w (wr.setRow b l) f i:=by
 obtain⟨A,c,d,j⟩:=h.X;refine⟨below_setRow h.B hn _,⟨A,c,d.other _ ?_,j.1,?_⟩,h.n1,by rw[size_setRow];exact h.n2⟩
 ·intro e;subst e;unfold ae at d a;rw[d]at a;injection a with a;injection a with _ e _;exact absurd e oD
 ·rcases j.2 with m|⟨g,cap,s,o,p,k,q⟩
  ·exact .inl m
  ·refine .inr ⟨g,cap,s,o,p,(setRow_other _ _ _ _ ?_).trans k,q⟩;intro e;subst e;unfold ae at a;rw[k]at a;injection a with a;injection a with _ e _;exact absurd e oD
theorem oW {W:World} {b:Nat} {d:ay} (h:an W b d.aC):∀j v,[Value.int .i64 (d.at_:Int),.int .i64 (d.mode:Int)][j]?=some v->W.cell? ((⟨b,5,none⟩:Addr).add j)=some v:=by
 intro j v a;have c:=rR h;rw[add_plain]
 match j,a with
 |0,a=>simp only[List.getElem?_cons_zero,Option.some.injEq]at a;rw[<-a];exact c.2.2.2.2.2.1
 |1,a=>simp only[List.getElem?_cons_succ,List.getElem?_cons_zero,Option.some.injEq]at a;rw[<-a];exact c.2.2.2.2.2.2
 |j+2,a=>simp at a
def Dh (W:World) (c:Nat) (v:Value):Nat:=match v with
 |.pointer (some b)=>(match W.cell? ⟨b.block,0,none⟩,W.cell? ⟨b.block,1,none⟩with|some (.int _ a),some (.int _ m)=>lp W c a.toNat m.toNat|_,_=>0)
 |_=>0
theorem FK {W:World} {e c cap hb b a m:Nat} {p:ByteArray} {C:Nat->Nat->Nat} (h:SW W e c cap hb p C) (d:ae W b #[.int .i64 (a:Int),.int .i64 (m:Int)] 179) (f:a<=p.size) (g:m<5):Dh W c (.pointer (some ⟨b,0,none⟩))=C a m:=by
 have i:W.cell? ⟨b,0,none⟩=some (.int .i64 (a:Int)):=d.cell 0 _ rfl;have j:W.cell? ⟨b,1,none⟩=some (.int .i64 (m:Int)):=d.cell 1 _ rfl;unfold Dh;simp only[i,j,Int.toNat_natCast];unfold lp;rw[h.cz a m f g];simp
theorem Ir (w:World) (J ap cap hb ca:Nat) (p:ByteArray) (C:Nat->Nat->Nat) (A:Nat->Nat->Option ay) (O:SQ w J ap cap hb p C) (cp:cW w hb ca A)
 (cy:∀a m,a<p.size->m<5->∃b,A a m=some b/\LG p C a m b):
 Calls Tryz.prog 81 #[.pointer (some ⟨J,0,none⟩)] w λe w'=>∃v,e= .returned v/\SG vB false w' v (ij p A (C 0 0) 0 0)/\Below w.heap.size w w':=by
 obtain⟨d0,d1,d6,d7,d8⟩:=info_parts gU;have e9:=O.S.hp;have P:Hid (∀W,Below w.heap.size w W->SQ W J ap cap hb p C/\cW W hb ca A):=λW n=>⟨O.below n,cp.below n⟩;have d9:=Lib.hid cy;have d2:=O.S.cc;have b4:=O.S.cz 0 0 oO oO;have bv:Hid (C 0 0<=1073741824):=O.S.b 0 0;have f1:=O.S.hc;simp only[Nat.zero_mul,Nat.zero_add]at b4;obtain⟨c0,cb⟩:∃c0,c0=C 0 0:=⟨_,rfl⟩;rw[<-cb]at b4 bv⊢;have c2:=Lib.hid cb;clear O cp cy cb;go_enter Tryz.func81,Tryz.ntmps81
 go_wp2_with(first
  |(at_make;refine wpList_make_own _ rfl _ _ _ rfl w.heap.size 4 d0 _ 1 Tryz.underlying26 d1 d6 d7 .i64 .i64 _ c0 rfl rfl rfl (by have:=bv.out;rw[d8];omega) (by have:=bv.out;unfold maxLen;omega) (Nat.le_refl _) ?_;intro E di hg;have M:=Lib.hid di;have av:Hid (Below w.heap.size w E):=(Below.refl _ _).grown hg (Nat.le_refl _) (λq hq=>by cases hq);clear di hg)
  |((with_reducible show wpList _ _ _ (⟨_,Op.alloc 179,_,_,_,_⟩::_) _ _);refine aX rfl 179 rfl _ jX ?_)
  |((with_reducible show wpList _ _ _ (⟨_,Op.store 179 _ _,_,_,_,_⟩::_) _ _);refine bm rfl 179 _ _ rfl 179 _ [_,_] rfl rfl dA rfl (fX _ _) ?_))
 simp only[yQ,yU,yX,yY];have dl:Hid (BO w.heap.size w ((E.alloc (.cells #[.slice (some ⟨w.heap.size,0,none⟩) 0 c0] 26)).alloc (.cells #[.int .i64 0,.int .i64 0] 179)) E.heap.size []):=by
  refine BO.below (wr:=E.alloc (.cells #[.slice (some ⟨w.heap.size,0,none⟩) 0 c0] 26)) ⟨av.out.alloc av.out.size _,⟨_,c0,ae.new _ _ _ _ rfl,M.out.alloc _⟩,av.out.size,?_⟩ (ax _ _);have:=av.out.size;simp;omega
 have ds:Hid (ae ((E.alloc (.cells #[.slice (some ⟨w.heap.size,0,none⟩) 0 c0] 26)).alloc (.cells #[.int .i64 0,.int .i64 0] 179)) (E.alloc (.cells #[.slice (some ⟨w.heap.size,0,none⟩) 0 c0] 26)).heap.size #[.int .i64 0,.int .i64 0] 179):=ae.new _ _ _ _ rfl;have dv:Hid (w.heap.size<=(E.alloc (.cells #[.slice (some ⟨w.heap.size,0,none⟩) 0 c0] 26)).heap.size):=by have:=av.out.size;show _<=_;simp;omega
 clear M av d2 b4;generalize(E.alloc (.cells #[.slice (some ⟨w.heap.size,0,none⟩) 0 c0] 26)).alloc (.cells #[.int .i64 0,.int .i64 0] 179)=fb at*;generalize(E.alloc (.cells #[.slice (some ⟨w.heap.size,0,none⟩) 0 c0] 26)).heap.size=ea at*;generalize E.heap.size=k at*
 trace_state
 go_loopw [5] (λb5 wr=>∃(c a m f:Nat) (g:List Bool),b5= .pointer (some ⟨c,0,none⟩)/\a<=p.size/\m<5/\w.heap.size<=c/\Hid (ae wr c #[.int .i64 (a:Int),.int .i64 (m:Int)] 179)/\Hid (BO w.heap.size w wr k g)/\Hid (g++ij p A f a m=ij p A c0 0 0)/\Hid (C a m<=f)/\Hid (g.length+C a m<=c0)) (λb5 wr=>Dh wr ap b5)
 case atStart=>exact⟨ea,0,0,c0,[],rfl,Nat.zero_le _,by omega,dv.out,ds.out,dl.out,rfl,by show _<=_;rw[c2.out];exact Nat.le_refl _,by show _<=_;rw[c2.out];simp⟩
 case round=>
  clear dl ds dv;obtain⟨c,a,m,f,g,rfl,d3,b6,bx,hF,r,bi,b7,bo⟩:=hrel;have a3:Hid (∀W,af wr W->W.cell? ⟨J,0,none⟩=some (.string p)/\W.cell? ⟨J,482,none⟩=some (.map (some hb))/\W.cell? ⟨c,0,none⟩=some (.int .i64 (a:Int))/\W.cell? ⟨c,1,none⟩=some (.int .i64 (m:Int))):=by
   show∀W,_;intro W n;have t:=(P.out W (r.out.B.trans (n.mono r.out.n2))).1.S;have cq:=hF.out.below n;exact⟨t.c0,t.cm,cq.cell 0 _ rfl,cq.cell 1 _ rfl⟩
  by_cases ce:a<p.size
  ·obtain⟨b,b8,B⟩:=d9.out a m ce b6;have bz:=Lib.hid B;have ec:=Lib.hid b8;have c3:Hid (Dh wr ap (.pointer (some ⟨c,0,none⟩))=C a m):=FK (P.out wr r.out.B).1.S hF.out d3 b6
   have b3:Hid (∀(V:Nat) (W:World),w.heap.size<=V->ae W V #[.int .i64 (b.at_:Int),.int .i64 (b.mode:Int)] 179->BO w.heap.size w W k (g++cH p a m b)->
    (∃(c a m f:Nat) (g:List Bool),Value.pointer (some ⟨V,0,none⟩)= .pointer (some ⟨c,0,none⟩)/\a<=p.size/\m<5/\w.heap.size<=c/\Hid (ae W c #[.int .i64 (a:Int),.int .i64 (m:Int)] 179)/\Hid (BO w.heap.size w W k g)/\Hid (g++ij p A f a m=ij p A c0 0 0)/\Hid (C a m<=f)/\Hid (g.length+C a m<=c0))/\Dh W ap (.pointer (some ⟨V,0,none⟩))<Dh wr ap (.pointer (some ⟨c,0,none⟩))):=by
    show∀(V:Nat) (W:World),_;intro V W d4 cr cs;have fc:C a m=b.size+C b.at_ b.mode:=B.eq;have fo:=B.ps;have fr:=B.ln;have fv:=b7.out;have fw:=bo.out;obtain⟨a4,rfl⟩:∃a4,f=a4+1:=⟨f-1,by omega⟩;refine⟨⟨V,b.at_,b.mode,a4,g++cH p a m b,rfl,B.le,B.md,d4,cr,cs,?_,?_,?_⟩,?_⟩
    ·have t:=bi.out;have e1:ij p A (a4+1) a m=cH p a m b++ij p A a4 b.at_ b.mode:=by
      show(if a<p.size then _ else _)=_;rw[if_pos ce,b8]
     rw[e1,<-List.append_assoc]at t;exact t
    ·show _<=_;omega
    ·show _<=_;rw[List.length_append];omega
    ·rw[c3.out,FK (P.out W cs.B).1.S cr B.le B.md];omega
   have X:Hid (g.length<=1073741824):=by show _<=_;have:=bo.out;have:=bv.out;omega
   have fx:=jh m;have fz:=B.nm;have ed:=B.s1;have ef:=B.s2;have c4:b.run<=4096:=by have:=B.rn;omega
   have eh:=P.out wr r.out.B;clear bi b7 bo c3 b8 B eh;go_wp2;refine yO (af wr) [1,2,3,4,5,6,7,8] (ai (Below.refl _ _)) ?_
   repeat refine zO a3.out ?_
   refine ag ?_;have b1:Hid (ae wr.drew c #[.int .i64 (a:Int),.int .i64 (m:Int)] 179):=hF.out.below (ai (Below.refl _ _));have M:Hid (BO w.heap.size w wr.drew k g):=r.out.below (ai (Below.refl _ _));have a0:Hid (∀W,af wr.drew W->W.cell? ⟨J,482,none⟩=some (.map (some hb))):=λW n=>(a3.out W (aa (ai (Below.refl _ _)) n)).2.1;clear hF r a3;go_wp2;generalize el:wr.drew=K at b1 M a0⊢;clear el;have c5:Hid (∀W,af K W->cW W hb ca A):=λW n=>(P.out W (M.out.B.trans (n.mono M.out.n2))).2;refine yO (af K) [1,2,3,4,5,6,0,7,8] (ai (Below.refl _ _)) ?_;refine zO a0.out ?_;refine zO a0.out ?_;refine zO a0.out ?_;refine zO a0.out ?_;refine' zV rfl (λW n=>jY 179 _ Tryz.underlying179 rfl rfl c [_,_] dA rfl (b1.out.below n).cells) ?_;refine' zV rfl (λW n=>Am (c5.out W n) rfl rfl a m rfl oO b6 b ec.out) ?_;refine' fi 181 rfl rfl _ mh (ah (ai (Below.refl _ _)) _) ?_;simp only[yQ,yU,yX,yY];refine' Cz 181 rfl _ _ rfl 181 _ b.aC rfl rfl fD rfl b.one (ah (ai (Below.refl _ _)) _) ?_;simp only[Act.put];refine ag ?_;have a8:Hid (ae (K.drew.alloc (.cells b.aC.toArray 181)) c #[.int .i64 (a:Int),.int .i64 (m:Int)] 179/\ae (K.drew.alloc (.cells b.aC.toArray 181)) K.drew.heap.size b.aC.toArray 181):=⟨b1.out.below (ah (ai (Below.refl _ _)) _),ae.new _ _ _ _ rfl⟩;have c6:Hid (BO w.heap.size w (K.drew.alloc (.cells b.aC.toArray 181)) k g):=M.out.below (ah (ai (Below.refl _ _)) _);clear b1 M a0 c5;generalize K.drew.alloc (.cells b.aC.toArray 181)=bq at*;generalize K.drew.heap.size=j at*;go_wp2;have a1:Hid (∀W,(ae W c #[.int .i64 (a:Int),.int .i64 (m:Int)] 179/\ae W j b.aC.toArray 181)->W.cell? ⟨j,0,none⟩=some (.int .i64 (b.num:Int))/\W.cell? ⟨c,1,none⟩=some (.int .i64 (m:Int))):=λW n=>⟨n.2.cell 0 _ rfl,n.1.cell 1 _ rfl⟩;refine yO (λW=>ae W c #[.int .i64 (a:Int),.int .i64 (m:Int)] 179/\ae W j b.aC.toArray 181) [1,2,3,4,5,0,6,7] a8.out ?_;refine zO a1.out ?_;refine zO a1.out ?_;refine zO a1.out ?_;refine zO a1.out ?_;refine zO a1.out ?_;refine zZ ?_;refine(kf m _).mono ?_;rintro e fd ⟨rfl,c7⟩;rw[c7];clear c7;refine⟨_,rfl,a8.out,jO ?_⟩;refine zZ ?_;have dx:Hid (BO w.heap.size w bq.drew k g):=c6.out.below (ai (Below.refl _ _));refine(CQ w.heap.size w bq.drew k g b.num (az m) dx.out oO oO (by have:=X.out;omega)).mono ?_;rintro e u ⟨rfl,s,l⟩;have ab:=Lib.hid s;have y:Hid (ae u c #[.int .i64 (a:Int),.int .i64 (m:Int)] 179/\ae u j b.aC.toArray 181):=⟨ae.dz (w:=bq.drew) a8.out.1 l (by simp[notBits]),ae.dz (w:=bq.drew) a8.out.2 l (by simp[notBits])⟩;clear s l c6 dx a8 a1;refine⟨_,rfl,y.out,jO ?_⟩;refine ag ?_;have a2:=Lib.hid (bM b.num (az m));have b9:u.cell? ⟨j,1,none⟩=some (.int .i64 b.sec):=y.out.2.cell 1 _ rfl;have Q:u.cell? ⟨j,2,none⟩=some (.int .i64 (b.run:Int)):=y.out.2.cell 2 _ rfl;have bs:u.cell? ⟨j,3,none⟩=some (.bool b.long):=y.out.2.cell 3 _ rfl;by_cases F:0<=b.sec
   ·obtain⟨bt,cg⟩:=Int.eq_ofNat_of_zero_le F;have N:=bz.out.sr F;have G:Hid (cH p a m b=bh b.num (az m)++bh bt 5):=by
     show _=_;unfold cH xi;rw[if_pos F,N,if_neg oO,List.append_nil,cg];rfl
    rw[cg]at b9 ef;rw[N]at Q;have f2:bt<32:=oO;clear F ed cg Q
    go_wp2_with(first
     |(go_at_call 131;(with_reducible show Calls _ _ _ u _);refine(nF w.heap.size w u k (g++bh b.num (az m)) bt 5 _ _ rfl rfl ab.out oO oO (by have:=X.out;have:=a2.out;simp only[List.length_append,bM];omega)).mono ?_;rintro e z ⟨rfl,s,l⟩;have a9:=Lib.hid s;have H:Hid (ae z c #[.int .i64 (a:Int),.int .i64 (m:Int)] 179/\ae z j b.aC.toArray 181):=⟨y.out.1.dz l (by simp[notBits]),y.out.2.dz l (by simp[notBits])⟩;have dy:z.cell? ⟨j,2,none⟩=some (.int .i64 0):=(by have t:z.cell? ⟨j,2,none⟩=some (.int .i64 (b.run:Int)):=H.out.2.cell 2 _ rfl;rw[N]at t;exact t);have D:Hid (ae z c #[.int .i64 (a:Int),.int .i64 (m:Int)] 179):=H.out.1;have Y:Hid (an z j b.aC):=H.out.2.cells;clear s l)
     |((with_reducible show wpList _ _ _ (⟨_,Op.load 179 _,_,_,_,_⟩::_) _ _);first|refine bD rfl 179 _ rfl _ Tryz.underlying179 rfl ⟨j,5,none⟩ [.int .i64 (b.at_:Int),.int .i64 (b.mode:Int)] dA rfl (oW Y.out) ?_|refine bD rfl 179 _ rfl _ Tryz.underlying179 rfl ⟨c,0,none⟩ [.int .i64 (b.at_:Int),.int .i64 (b.mode:Int)] dA rfl (gH ((D.out.set _).cells)) ?_)
     |((with_reducible show wpList _ _ _ (⟨_,Op.alloc 179,_,_,_,_⟩::_) _ _);refine aX rfl 179 rfl _ jX ?_)
     |((with_reducible show wpList _ _ _ (⟨_,Op.store 179 _ _,_,_,_,_⟩::_) _ _);first|(refine cB rfl 179 _ _ rfl 179 c 0 #[.int .i64 (a:Int),.int .i64 (m:Int)] [.int .i64 (b.at_:Int),.int .i64 (b.mode:Int)] rfl rfl D.out dA (by show 2<=2;omega) (fX _ _) ?_;rw[jx [.int .i64 (a:Int),.int .i64 (m:Int)] [.int .i64 (b.at_:Int),.int .i64 (b.mode:Int)] rfl])|refine bm rfl 179 _ _ rfl 179 _ [_,_] rfl rfl dA rfl (fX _ _) ?_))
    have ac:Hid (BO w.heap.size w ((z.setRow c #[.int .i64 (b.at_:Int),.int .i64 (b.mode:Int)]).alloc (.cells #[.int .i64 (b.at_:Int),.int .i64 (b.mode:Int)] 179)) k (g++cH p a m b)):=by
     have t:=(a9.out.setRow bx H.out.1 #[.int .i64 (b.at_:Int),.int .i64 (b.mode:Int)]).below (ax _ (.cells #[.int .i64 (b.at_:Int),.int .i64 (b.mode:Int)] 179));rw[show g++cH p a m b=(g++bh b.num (az m))++bh bt 5 from(by rw[G.out,List.append_assoc])];exact t
    have ad:w.heap.size<=z.heap.size:=a9.out.n2;exact b3.out _ _ (by simpa using ad) (ae.new _ _ _ _ oS) ac.out
   have f0:decide ((0:Int)<=b.sec)=false:=by simp;omega
   by_cases N:b.run=0
   ·have G:Hid (cH p a m b=bh b.num (az m)):=by
     show _=_;unfold cH xi;rw[if_neg F,N,if_neg oO,List.append_nil,List.append_nil]
    rw[N]at Q;clear F;have D:Hid (ae u c #[.int .i64 (a:Int),.int .i64 (m:Int)] 179):=y.out.1;have Y:Hid (an u j b.aC):=y.out.2.cells
    go_wp2_with(first
     |((with_reducible show wpList _ _ _ (⟨_,Op.load 179 _,_,_,_,_⟩::_) _ _);first|refine bD rfl 179 _ rfl _ Tryz.underlying179 rfl ⟨j,5,none⟩ [.int .i64 (b.at_:Int),.int .i64 (b.mode:Int)] dA rfl (oW Y.out) ?_|refine bD rfl 179 _ rfl _ Tryz.underlying179 rfl ⟨c,0,none⟩ [.int .i64 (b.at_:Int),.int .i64 (b.mode:Int)] dA rfl (gH ((D.out.set _).cells)) ?_)
     |((with_reducible show wpList _ _ _ (⟨_,Op.alloc 179,_,_,_,_⟩::_) _ _);refine aX rfl 179 rfl _ jX ?_)
     |((with_reducible show wpList _ _ _ (⟨_,Op.store 179 _ _,_,_,_,_⟩::_) _ _);first|(refine cB rfl 179 _ _ rfl 179 c 0 #[.int .i64 (a:Int),.int .i64 (m:Int)] [.int .i64 (b.at_:Int),.int .i64 (b.mode:Int)] rfl rfl D.out dA (by show 2<=2;omega) (fX _ _) ?_;rw[jx [.int .i64 (a:Int),.int .i64 (m:Int)] [.int .i64 (b.at_:Int),.int .i64 (b.mode:Int)] rfl])|refine bm rfl 179 _ _ rfl 179 _ [_,_] rfl rfl dA rfl (fX _ _) ?_))
    have ac:Hid (BO w.heap.size w ((u.setRow c #[.int .i64 (b.at_:Int),.int .i64 (b.mode:Int)]).alloc (.cells #[.int .i64 (b.at_:Int),.int .i64 (b.mode:Int)] 179)) k (g++cH p a m b)):=by
     have t:=(ab.out.setRow bx y.out.1 #[.int .i64 (b.at_:Int),.int .i64 (b.mode:Int)]).below (ax _ (.cells #[.int .i64 (b.at_:Int),.int .i64 (b.mode:Int)] 179));rw[show g++cH p a m b=g++bh b.num (az m)from(by rw[G.out])];exact t
    have ad:w.heap.size<=u.heap.size:=ab.out.n2;exact b3.out _ _ (by simpa using ad) (ae.new _ _ _ _ oS) ac.out
   cases a5:b.long with
   |true=>
    rw[a5]at bs;have et:=bz.out.lg oO a5;have G:Hid (g++cH p a m b=(((g++bh b.num (az m))++bh 0 5)++bh (b.run-31) 11)++byF p a b.run):=by
     show _=_;unfold cH xi;rw[if_neg F,if_pos oO,if_pos a5,List.append_nil];simp only[List.append_assoc]
    have co:a+b.run<=p.size:=bz.out.rn;obtain⟨rn,al⟩:∃rn,rn=b.run:=⟨_,rfl⟩;have b2:=Lib.hid al;rw[<-al]at N c4 et co G Q;clear al;have f3:IntKind.i64.wrap ((rn:Int)-31)=((rn-31:Nat):Int):=by rw[aE _ oO oO];omega
    have em:0<rn:=oO;clear F;go_wp2_with(go_at_call 131;(with_reducible show Calls _ _ _ u _);refine(nF w.heap.size w u k (g++bh b.num (az m)) 0 5 _ _ rfl rfl ab.out oO oO (by have:=X.out;have:=a2.out;simp only[List.length_append,bM];omega)).mono ?_;rintro e z ⟨rfl,s,l⟩;have a9:=Lib.hid s;have H:Hid (ae z c #[.int .i64 (a:Int),.int .i64 (m:Int)] 179/\ae z j b.aC.toArray 181):=⟨y.out.1.dz l (by simp[notBits]),y.out.2.dz l (by simp[notBits])⟩;have dy:z.cell? ⟨j,2,none⟩=some (.int .i64 (rn:Int)):=(by rw[b2.out];exact H.out.2.cell 2 _ rfl);clear s l)
    clear ab y b9 Q bs;go_wp2_with(go_at_call 131;(with_reducible show Calls _ _ _ z _);refine(nF w.heap.size w z k ((g++bh b.num (az m))++bh 0 5) (rn-31) 11 _ _ rfl rfl a9.out oO oO (by have:=X.out;have:=a2.out;simp only[List.length_append,bM];omega)).mono ?_;rintro e S ⟨rfl,s,l⟩;have bb:=Lib.hid s;have am:Hid (ae S c #[.int .i64 (a:Int),.int .i64 (m:Int)] 179/\ae S j b.aC.toArray 181):=⟨H.out.1.dz l (by simp[notBits]),H.out.2.dz l (by simp[notBits])⟩;have e0:S.cell? ⟨j,2,none⟩=some (.int .i64 (rn:Int)):=(by rw[b2.out];exact am.out.2.cell 2 _ rfl);clear s l)
    clear a9 H dy;have ch:Hid ((((g++bh b.num (az m))++bh 0 5)++bh (rn-31) 11).length<=1073742000):=by show _<=_;have:=X.out;have:=a2.out;simp only[List.length_append,bM];omega
    generalize((g++bh b.num (az m))++bh 0 5)++bh (rn-31) 11=L at*;go_loopw [64] (λT wr=>∃i:Nat,i<=rn/\T= .int .i64 i/\Hid (BO w.heap.size w wr k (L++byF p a i))/\Hid (ae wr c #[.int .i64 (a:Int),.int .i64 (m:Int)] 179/\ae wr j b.aC.toArray 181)) (λT _=>rn-(intOf T).toNat)
    case atStart=>exact⟨0,Nat.zero_le _,rfl,by show BO _ _ _ _ _;rw[show byF p a 0=[]from rfl,List.append_nil];exact bb.out,am.out⟩
    case round=>
     clear bb am;obtain⟨i,en,rfl,r,hF⟩:=hrel;by_cases ew:i<rn
     ·obtain⟨x,a6⟩:∃x,x=(p.data.toList.getD (a+i) 0).toNat:=⟨_,rfl⟩;have Z:=Lib.hid a6;have o:Hid (∀W,(Below w.heap.size w W/\ae W c #[.int .i64 (a:Int),.int .i64 (m:Int)] 179)->W.cell? ⟨J,0,none⟩=some (.string p)/\W.cell? ⟨c,0,none⟩=some (.int .i64 (a:Int))):=λW n=>⟨(P.out W n.1).1.S.c0,n.2.cell 0 _ rfl⟩;have ci:a+i<p.size:=oO;have ex:IntKind.i64.wrap ((a:Int)+(i:Int))=((a+i:Nat):Int):=by rw[aE _ oO oO];omega
      clear a6;go_wp2;refine yO (λW=>Below w.heap.size w W/\ae W c #[.int .i64 (a:Int),.int .i64 (m:Int)] 179) [1,2,3,4,5,6,7,8,9,10,11,0,12] ⟨ai r.out.B,hF.out.1⟩ ?_;refine zO o.out ?_;refine zO o.out ?_;refine zO o.out ?_;refine zO o.out ?_;refine zO o.out ?_;refine zO o.out ?_;refine zO o.out ?_;refine zO o.out ?_;refine zO o.out ?_;refine' zV rfl (λW n=>tF rfl rfl rfl (a+i) rfl ci) ?_;rw[<-Z.out];have ey:x<256:=by rw[Z.out];exact UInt8.toNat_lt _
      refine zO o.out ?_;refine zZ ?_;have a7:Hid (BO w.heap.size w wr.drew k (L++byF p a i)):=r.out.below (ai (Below.refl _ _));rw[show IntKind.i64.wrap (x:Int)=(x:Int)from aE _ oO oO];refine(nF w.heap.size w wr.drew k (L++byF p a i) x 8 _ _ rfl rfl a7.out oO oO (by have:=ch.out;rw[List.length_append,sU];omega)).mono ?_;rintro e U ⟨rfl,s,l⟩;have bd:Hid (BO w.heap.size w U k (L++byF p a (i+1))):=by
       show BO _ _ _ _ _;rw[show byF p a (i+1)=byF p a i++bh x 8 from by rw[Z.out];rfl,<-List.append_assoc];exact s
      have be:Hid (ae U c #[.int .i64 (a:Int),.int .i64 (m:Int)] 179/\ae U j b.aC.toArray 181):=⟨ae.dz (w:=wr.drew) hF.out.1 l (by simp[notBits]),ae.dz (w:=wr.drew) hF.out.2 l (by simp[notBits])⟩;clear s l r hF a7 o;refine⟨_,rfl,⟨bd.out.B,be.out.1⟩,jO ?_⟩;refine ag ?_;go_wp2;exact⟨⟨i+1,by omega,by go_num,bd.out,be.out⟩,by simp[intOf];omega⟩
     ·have ck:i=rn:=oO;have bf:Hid (BO w.heap.size w wr k (L++byF p a rn)):=by rw[<-ck];exact r.out
      clear r;have D:Hid (ae wr c #[.int .i64 (a:Int),.int .i64 (m:Int)] 179):=hF.out.1;have Y:Hid (an wr j b.aC):=hF.out.2.cells
      go_wp2_with(first
       |((with_reducible show wpList _ _ _ (⟨_,Op.load 179 _,_,_,_,_⟩::_) _ _);first|refine bD rfl 179 _ rfl _ Tryz.underlying179 rfl ⟨j,5,none⟩ [.int .i64 (b.at_:Int),.int .i64 (b.mode:Int)] dA rfl (oW Y.out) ?_|refine bD rfl 179 _ rfl _ Tryz.underlying179 rfl ⟨c,0,none⟩ [.int .i64 (b.at_:Int),.int .i64 (b.mode:Int)] dA rfl (gH ((D.out.set _).cells)) ?_)
       |((with_reducible show wpList _ _ _ (⟨_,Op.alloc 179,_,_,_,_⟩::_) _ _);refine aX rfl 179 rfl _ jX ?_)
       |((with_reducible show wpList _ _ _ (⟨_,Op.store 179 _ _,_,_,_,_⟩::_) _ _);first|(refine cB rfl 179 _ _ rfl 179 c 0 #[.int .i64 (a:Int),.int .i64 (m:Int)] [.int .i64 (b.at_:Int),.int .i64 (b.mode:Int)] rfl rfl D.out dA (by show 2<=2;omega) (fX _ _) ?_;rw[jx [.int .i64 (a:Int),.int .i64 (m:Int)] [.int .i64 (b.at_:Int),.int .i64 (b.mode:Int)] rfl])|refine bm rfl 179 _ _ rfl 179 _ [_,_] rfl rfl dA rfl (fX _ _) ?_))
      have ac:Hid (BO w.heap.size w ((wr.setRow c #[.int .i64 (b.at_:Int),.int .i64 (b.mode:Int)]).alloc (.cells #[.int .i64 (b.at_:Int),.int .i64 (b.mode:Int)] 179)) k (g++cH p a m b)):=by
       have t:=(bf.out.setRow bx hF.out.1 #[.int .i64 (b.at_:Int),.int .i64 (b.mode:Int)]).below (ax _ (.cells #[.int .i64 (b.at_:Int),.int .i64 (b.mode:Int)] 179));rw[show g++cH p a m b=L++byF p a rn from G.out];exact t
      have ad:w.heap.size<=wr.heap.size:=bf.out.n2;exact b3.out _ _ (by simpa using ad) (ae.new _ _ _ _ oS) ac.out
   |false=>
    rw[a5]at bs;have G:Hid (g++cH p a m b=((g++bh b.num (az m))++bh b.run 5)++byF p a b.run):=by
     show _=_;unfold cH xi;rw[if_neg F,if_pos oO,if_neg (by rw[a5];simp),List.append_nil];simp only[List.append_assoc]
    have co:a+b.run<=p.size:=bz.out.rn;obtain⟨rn,al⟩:∃rn,rn=b.run:=⟨_,rfl⟩;have b2:=Lib.hid al;rw[<-al]at N c4 co G Q;clear al;have em:0<rn:=oO;clear F;go_wp2_with(go_at_call 131;(with_reducible show Calls _ _ _ u _);refine(nF w.heap.size w u k (g++bh b.num (az m)) rn 5 _ _ rfl rfl ab.out oO oO (by have:=X.out;have:=a2.out;simp only[List.length_append,bM];omega)).mono ?_;rintro e S ⟨rfl,s,l⟩;have bb:=Lib.hid s;have am:Hid (ae S c #[.int .i64 (a:Int),.int .i64 (m:Int)] 179/\ae S j b.aC.toArray 181):=⟨y.out.1.dz l (by simp[notBits]),y.out.2.dz l (by simp[notBits])⟩;have e0:S.cell? ⟨j,2,none⟩=some (.int .i64 (rn:Int)):=(by rw[b2.out];exact am.out.2.cell 2 _ rfl);clear s l)
    clear ab y b9 Q bs;have ch:Hid (((g++bh b.num (az m))++bh rn 5).length<=1073742000):=by show _<=_;have:=X.out;have:=a2.out;simp only[List.length_append,bM];omega
    generalize(g++bh b.num (az m))++bh rn 5=L at*;go_loopw [64] (λT wr=>∃i:Nat,i<=rn/\T= .int .i64 i/\Hid (BO w.heap.size w wr k (L++byF p a i))/\Hid (ae wr c #[.int .i64 (a:Int),.int .i64 (m:Int)] 179/\ae wr j b.aC.toArray 181)) (λT _=>rn-(intOf T).toNat)
    case atStart=>exact⟨0,Nat.zero_le _,rfl,by show BO _ _ _ _ _;rw[show byF p a 0=[]from rfl,List.append_nil];exact bb.out,am.out⟩
    case round=>
     clear bb am;obtain⟨i,en,rfl,r,hF⟩:=hrel;by_cases ew:i<rn
     ·obtain⟨x,a6⟩:∃x,x=(p.data.toList.getD (a+i) 0).toNat:=⟨_,rfl⟩;have Z:=Lib.hid a6;have o:Hid (∀W,(Below w.heap.size w W/\ae W c #[.int .i64 (a:Int),.int .i64 (m:Int)] 179)->W.cell? ⟨J,0,none⟩=some (.string p)/\W.cell? ⟨c,0,none⟩=some (.int .i64 (a:Int))):=λW n=>⟨(P.out W n.1).1.S.c0,n.2.cell 0 _ rfl⟩;have ci:a+i<p.size:=oO;have ex:IntKind.i64.wrap ((a:Int)+(i:Int))=((a+i:Nat):Int):=by rw[aE _ oO oO];omega
      clear a6;go_wp2;refine yO (λW=>Below w.heap.size w W/\ae W c #[.int .i64 (a:Int),.int .i64 (m:Int)] 179) [1,2,3,4,5,6,7,8,9,10,11,0,12] ⟨ai r.out.B,hF.out.1⟩ ?_;refine zO o.out ?_;refine zO o.out ?_;refine zO o.out ?_;refine zO o.out ?_;refine zO o.out ?_;refine zO o.out ?_;refine zO o.out ?_;refine zO o.out ?_;refine zO o.out ?_;refine' zV rfl (λW n=>tF rfl rfl rfl (a+i) rfl ci) ?_;rw[<-Z.out];have ey:x<256:=by rw[Z.out];exact UInt8.toNat_lt _
      refine zO o.out ?_;refine zZ ?_;have a7:Hid (BO w.heap.size w wr.drew k (L++byF p a i)):=r.out.below (ai (Below.refl _ _));rw[show IntKind.i64.wrap (x:Int)=(x:Int)from aE _ oO oO];refine(nF w.heap.size w wr.drew k (L++byF p a i) x 8 _ _ rfl rfl a7.out oO oO (by have:=ch.out;rw[List.length_append,sU];omega)).mono ?_;rintro e U ⟨rfl,s,l⟩;have bd:Hid (BO w.heap.size w U k (L++byF p a (i+1))):=by
       show BO _ _ _ _ _;rw[show byF p a (i+1)=byF p a i++bh x 8 from by rw[Z.out];rfl,<-List.append_assoc];exact s
      have be:Hid (ae U c #[.int .i64 (a:Int),.int .i64 (m:Int)] 179/\ae U j b.aC.toArray 181):=⟨ae.dz (w:=wr.drew) hF.out.1 l (by simp[notBits]),ae.dz (w:=wr.drew) hF.out.2 l (by simp[notBits])⟩;clear s l r hF a7 o;refine⟨_,rfl,⟨bd.out.B,be.out.1⟩,jO ?_⟩;refine ag ?_;go_wp2;exact⟨⟨i+1,by omega,by go_num,bd.out,be.out⟩,by simp[intOf];omega⟩
     ·have ck:i=rn:=oO;have bf:Hid (BO w.heap.size w wr k (L++byF p a rn)):=by rw[<-ck];exact r.out
      clear r;have D:Hid (ae wr c #[.int .i64 (a:Int),.int .i64 (m:Int)] 179):=hF.out.1;have Y:Hid (an wr j b.aC):=hF.out.2.cells
      go_wp2_with(first
       |((with_reducible show wpList _ _ _ (⟨_,Op.load 179 _,_,_,_,_⟩::_) _ _);first|refine bD rfl 179 _ rfl _ Tryz.underlying179 rfl ⟨j,5,none⟩ [.int .i64 (b.at_:Int),.int .i64 (b.mode:Int)] dA rfl (oW Y.out) ?_|refine bD rfl 179 _ rfl _ Tryz.underlying179 rfl ⟨c,0,none⟩ [.int .i64 (b.at_:Int),.int .i64 (b.mode:Int)] dA rfl (gH ((D.out.set _).cells)) ?_)
       |((with_reducible show wpList _ _ _ (⟨_,Op.alloc 179,_,_,_,_⟩::_) _ _);refine aX rfl 179 rfl _ jX ?_)
       |((with_reducible show wpList _ _ _ (⟨_,Op.store 179 _ _,_,_,_,_⟩::_) _ _);first|(refine cB rfl 179 _ _ rfl 179 c 0 #[.int .i64 (a:Int),.int .i64 (m:Int)] [.int .i64 (b.at_:Int),.int .i64 (b.mode:Int)] rfl rfl D.out dA (by show 2<=2;omega) (fX _ _) ?_;rw[jx [.int .i64 (a:Int),.int .i64 (m:Int)] [.int .i64 (b.at_:Int),.int .i64 (b.mode:Int)] rfl])|refine bm rfl 179 _ _ rfl 179 _ [_,_] rfl rfl dA rfl (fX _ _) ?_))
      have ac:Hid (BO w.heap.size w ((wr.setRow c #[.int .i64 (b.at_:Int),.int .i64 (b.mode:Int)]).alloc (.cells #[.int .i64 (b.at_:Int),.int .i64 (b.mode:Int)] 179)) k (g++cH p a m b)):=by
       have t:=(bf.out.setRow bx hF.out.1 #[.int .i64 (b.at_:Int),.int .i64 (b.mode:Int)]).below (ax _ (.cells #[.int .i64 (b.at_:Int),.int .i64 (b.mode:Int)] 179));rw[show g++cH p a m b=L++byF p a rn from G.out];exact t
      have ad:w.heap.size<=wr.heap.size:=bf.out.n2;exact b3.out _ _ (by simpa using ad) (ae.new _ _ _ _ oS) ac.out
  ·have d5:Hid (g=ij p A c0 0 0):=by
    show _=_;rw[<-bi.out];have e1:ij p A f a m=[]:=by
     cases f with
     |zero=>rfl
     |succ f=>show(if a<p.size then _ else _)=_;rw[if_neg ce]
    rw[e1,List.append_nil]
   obtain⟨cv,cx,c8,c9⟩:=r.out.X;have eq:=Lib.hid c8;have er:=Lib.hid c9;have es:=Lib.hid r.out.B;clear hF r bi b7 bo c8 c9;go_wp2;refine yO (af wr) [1,2,3,4,5,6,7,8] (ai (Below.refl _ _)) ?_
   repeat refine zO a3.out ?_
   refine ag ?_;have ez:Hid (ae wr.drew k #[.slice cv g.length cx] 26):=eq.out.below (ai (Below.refl _ _));have fn:wr.drew.cell? ⟨k,0,none⟩=some (.slice cv g.length cx):=ez.out.cell 0 _ rfl;clear a3;go_wp2;go_ret;refine⟨_,rfl,?_,ai es.out⟩;rw[<-d5.out];exact SG.bK (f:=vB) (d:=false) (ao er.out (ai (Below.refl _ _)))
structure cT (p:ByteArray) (C:Nat->Nat->Nat):Prop where
 fix:∀a,a<p.size->lO C p a
 zero:∀a m,p.size<=a->C a m=0
 top:∀a m,C a m<=1073741824
theorem vu (m:Nat):4<=az m:=by unfold az;split<;>omega
theorem xQ {C:Nat->Nat->Nat} {num at_ m:Nat} {a:ay} {n sz:Nat} {lg:Bool} (hb:a.mode=m):(cY C num at_ m a n sz lg).mode=m:=by unfold cY;split<;>first|rfl|exact hb
theorem qF {C:Nat->Nat->Nat} {num at_ m:Nat}:∀k,(eY C num at_ m k).mode=m
 |0=>rfl
 |k+1=>xQ (qF k)
theorem tS {C:Nat->Nat->Nat} {num at_ m K:Nat}:∀k,(dG C num at_ m K k).mode=m
 |0=>qF K
 |k+1=>xQ (tS k)
theorem tH {C C':Nat->Nat->Nat} {num at_ m:Nat} {b:ay} {n sz:Nat} {lg:Bool} (h:∀a,at_<a->C a m=C' a m) (hn:0<n) (c:b.mode=m) (hb:b.run=0\/at_<b.at_):cY C num at_ m b n sz lg=cY C' num at_ m b n sz lg:=by
 have e1:ay.bQ C ⟨num,-1,n,lg,sz+8* n,at_+n,m⟩=ay.bQ C' ⟨num,-1,n,lg,sz+8* n,at_+n,m⟩:=by
  unfold ay.bQ;rw[h _ (by show at_<at_+n;omega)]
 unfold cY;rcases hb with hb|hb
 ·rw[if_pos (.inl hb),if_pos (.inl hb)]
 ·have e2:b.bQ C=b.bQ C':=by unfold ay.bQ;rw[c,h _ hb]
  rw[e1,e2]
theorem ss {C C':Nat->Nat->Nat} {num at_ m:Nat} (h:∀a,at_<a->C a m=C' a m):∀k,eY C num at_ m k=eY C' num at_ m k
 |0=>rfl
 |k+1=>by
  show cY C _ _ _ _ _ _ _=cY C' _ _ _ _ _ _ _;rw[tH h oO (qF k) (mP k),ss h k]
theorem rk {C C':Nat->Nat->Nat} {num at_ m K:Nat} (h:∀a,at_<a->C a m=C' a m):∀k,dG C num at_ m K k=dG C' num at_ m K k
 |0=>ss h K
 |k+1=>by
  show cY C _ _ _ _ _ _ _=cY C' _ _ _ _ _ _ _;rw[tH h oO (tS k) (nC k),rk h k]
theorem pj {C C':Nat->Nat->Nat} {p:ByteArray} {at_ m:Nat} (h:∀a,at_<a->C a m=C' a m):∀k,bI C p at_ m k=bI C' p at_ m k
 |0=>rfl
 |k+1=>by
  unfold bI;rw[pj h k];congr 1;unfold dX eU;rw[rk h]
theorem r4 {C:Nat->Nat->Nat} {p:ByteArray} {at_ m:Nat} {c:ay}:∀k,c∈bI C p at_ m k->0<c.size:=by
 have g:=vu m;have d:∀num k,0<(eY C num at_ m k).size:=by
  intro num k
  induction k with
  |zero=>show 0<1073741824;omega
  |succ k b=>
   show 0<(cY _ _ _ _ _ _ _ _).size;unfold cY;split
   ·show 0<az m+16+8* (31+k);omega
   ·exact b
 have e:∀num K k,0<(dG C num at_ m K k).size:=by
  intro num K k
  induction k with
  |zero=>exact d num K
  |succ k b=>
   show 0<(cY _ _ _ _ _ _ _ _).size;unfold cY;split
   ·show 0<az m+5+8* (1+k);omega
   ·exact b
 have f:∀n,c∈dX C p at_ m n->0<c.size:=by
  intro n a;unfold dX at a;split at a
  ·split at a
   ·rw[List.mem_singleton]at a;subst a;show 0<az m;omega
   ·cases a
  split at a
  ·rw[List.mem_singleton]at a;subst a;show 0<az m;omega
  split at a
  ·have key:∀k,c∈optSK p at_ m n (modeF m n) k->0<c.size:=by
    intro k
    induction k with
    |zero=>intro h;cases h
    |succ k b=>
     intro h;unfold optSK at h;rw[List.mem_append]at h;rcases h with h|h
     ·exact b h
     ·unfold l9 at h;split at h
      ·rw[List.mem_singleton]at h;subst h;show 0<az m+az (modeF m n);omega
      ·cases h
   exact key 32 a
  split at a
  ·rw[List.mem_singleton]at a;subst a;exact e _ _ _
  ·cases a
 intro k
 induction k with
 |zero=>intro h;cases h
 |succ k b=>
  intro h;unfold bI at h;rw[List.mem_append]at h;rcases h with h|h
  ·exact b h
  ·exact f _ h
theorem cT.J5 {p:ByteArray} {C C':Nat->Nat->Nat} (k:p.size<=4096) (h:cT p C) (l:cT p C') (a:Nat) (g:a<p.size) (i:∀a' m,a<a'->m<5->C a' m=C' a' m):∀x m,m<5->C' a m=x->C a m<=C' a m:=by
 intro x
 induction x using Nat.strongRecOn with
 |ind x r=>
  intro m c u;rcases(l.fix a g).2 m c with n|⟨f,b,e⟩
  ·rw[n];exact h.top a m
  ·have o:bI C' p a m 32=bI C p a m 32:=pj (λa' s=>(i a' m s c).symm) 32;have j:=pN g k c 32 b;have v:=r4 32 b;have t:=xu 32 b;rw[o]at b;have q:=(h.fix a g).1 m c f b;refine Nat.le_trans q ?_;rw[<-e];unfold ay.bQ at e⊢;refine Nat.add_le_add_left ?_ _;rcases Nat.eq_or_lt_of_le t with d|d
   ·rw[<-d];rw[<-d]at e;exact r (C' a f.mode) oO f.mode j.2.1 rfl
   ·rw[i _ _ d j.2.1];exact Nat.le_refl _
theorem cT.uniq {p:ByteArray} {C C':Nat->Nat->Nat} (f:p.size<=4096) (h:cT p C) (c:cT p C') (a m:Nat) (d:m<5):C a m=C' a m:=by
 have key:∀k a,p.size<=a+k->∀m,m<5->C a m=C' a m:=by
  intro k
  induction k with
  |zero=>intro a b m _;rw[h.zero a m b,c.zero a m b]
  |succ k j=>
   intro a l m d;by_cases b:a<p.size
   ·have i:∀a' m,a<a'->m<5->C a' m=C' a' m:=λa' m g e=>j a' oO m e;exact Nat.le_antisymm (h.J5 f c a b i _ m d rfl) (c.J5 f h a b (λa' m g e=>(i a' m g e).symm) _ m d rfl)
   ·rw[h.zero a m oO,c.zero a m oO]
 exact key p.size a oO m d
theorem xy {C:Nat->Nat->Nat} {num at_ m:Nat} {a:ay} {n sz:Nat} {lg:Bool} (hb:a.run≠0):(cY C num at_ m a n sz lg).bQ C<=a.bQ C:=by
 unfold cY;split
 ·rename_i h
  rcases h with h|h
  ·exact absurd h hb
  ·exact Nat.le_of_lt h
 ·exact Nat.le_refl _
theorem zk {C:Nat->Nat->Nat} {num at_ m:Nat} {a:ay} {n sz:Nat} {lg:Bool}:(cY C num at_ m a n sz lg).bQ C<=ay.bQ C ⟨num,-1,n,lg,sz+8* n,at_+n,m⟩:=by
 unfold cY;split
 ·exact Nat.le_refl _
 ·rename_i h;omega
theorem mT {C:Nat->Nat->Nat} {num at_ m:Nat} {a:ay} {n sz:Nat} {lg:Bool} (hn:0<n):(cY C num at_ m a n sz lg).run≠0:=by
 unfold cY;split
 ·show n≠0;omega
 ·rename_i h;exactλe=>h (.inl e)
theorem sH {C:Nat->Nat->Nat} {num at_ m K:Nat}:∀k j,1<=j->j<=k->(dG C num at_ m K k).bQ C<=ay.bQ C ⟨num,-1,j,false,az m+5+8* j,at_+j,m⟩
 |0,j,a,b=>by omega
 |k+1,j,a,b=>by
  show(cY _ _ _ _ _ _ _ _).bQ C<=_;by_cases e:j=1+k
  ·subst e;exact zk
  ·have c:=sH (C:=C) (num:=num) (at_:=at_) (m:=m) (K:=K) k j a oO;refine Nat.le_trans (xy ?_) c;cases k with
   |zero=>omega
   |succ k=>exact mT oO
theorem BC {C:Nat->Nat->Nat} {num at_ m:Nat}:∀k j,31<=j->j<31+k->(eY C num at_ m k).bQ C<=ay.bQ C ⟨num,-1,j,true,az m+16+8* j,at_+j,m⟩
 |0,j,a,b=>by omega
 |k+1,j,a,b=>by
  show(cY _ _ _ _ _ _ _ _).bQ C<=_;by_cases e:j=31+k
  ·subst e;exact zk
  ·have c:=BC (C:=C) (num:=num) (at_:=at_) (m:=m) k j a oO;refine Nat.le_trans (xy ?_) c;cases k with
   |zero=>omega
   |succ k=>exact mT oO
theorem qj {C:Nat->Nat->Nat} {num at_ m K:Nat} (a:0<K):∀k,(dG C num at_ m K k).bQ C<=(eY C num at_ m K).bQ C/\(dG C num at_ m K k).run≠0
 |0=>⟨Nat.le_refl _,by
  obtain⟨K',rfl⟩:∃K',K=K'+1:=⟨K-1,by omega⟩
  exact mT oO⟩
 |k+1=>⟨Nat.le_trans (xy (qj a k).2) (qj a k).1,mT oO⟩
theorem qv {C:Nat->Nat->Nat} {p:ByteArray} {at_ m n:Nat} {a:ay} (b:a∈dX C p at_ m n):∀k,n<k->a∈bI C p at_ m k
 |0,h=>by omega
 |k+1,h=>by
  unfold bI;rw[List.mem_append];by_cases e:n=k
  ·subst e;exact .inr b
  ·exact .inl (qv b k oO)
theorem cT.bin {p:ByteArray} {C:Nat->Nat->Nat} (h:cT p C) (a m:Nat) (b:a<p.size) (n:m<3):C a m<=18+C (a+1) m:=by
 have c:dU m 31=4:=by
  have d:dU 0 31=4:=oK;have e:dU 1 31=4:=oK;have f:dU 2 31=4:=oK;have g:m=0\/m=1\/m=2:=oO;rcases g with rfl|rfl|rfl
  ·exact d
  ·exact e
  ·exact f
 have i:az m=5:=by unfold az;rw[if_neg oO]
 have j:eU C 31 a m (p.size-a)∈dX C p a m 31:=by
  unfold dX;rw[c,if_neg oO,if_neg oO,if_neg oO,if_pos rfl];exact List.mem_singleton.2 rfl
 have k:=(h.fix a b).1 m oO _ (qv j 32 oO);refine Nat.le_trans k ?_;have l:=sH (C:=C) (num:=31) (at_:=a) (m:=m) (K:=min (p.size-a) 2078-30) (min (p.size-a) 31) 1 oO oO;refine Nat.le_trans l ?_;show az m+5+8* 1+C (a+1) m<=_;rw[i];omega
theorem cT.qZ {p:ByteArray} {C:Nat->Nat->Nat} (h:cT p C) (a m n:Nat) (b:a<p.size) (c:m<5) (hn:n<32) (d:dU m n=2):C a m<=az m+C a (modeF m n):=by
 have e:(⟨n,-1,0,false,az m,a,modeF m n⟩:ay)∈dX C p a m n:=by
  unfold dX;rw[d,if_neg oO,if_pos rfl];exact List.mem_singleton.2 rfl
 exact(h.fix a b).1 m c _ (qv e 32 hn)
theorem cT.up {p:ByteArray} {C:Nat->Nat->Nat} (h:cT p C) (a:Nat):C a 0<=18* (p.size-a):=by
 have key:∀k a,p.size<=a+k->C a 0<=18* (p.size-a):=by
  intro k
  induction k with
  |zero=>intro a b;rw[h.zero a 0 b];exact Nat.zero_le _
  |succ k c=>
   intro a b;by_cases d:a<p.size
   ·have e:=h.bin a 0 d oO;have f:=c (a+1) oO;omega
   ·rw[h.zero a 0 oO];exact Nat.zero_le _
 exact key p.size a oO
theorem cT.MB {p:ByteArray} {C:Nat->Nat->Nat} (h:cT p C) (a m:Nat) (k:m<5):C a m<=9+C a 0:=by
 by_cases c:a<p.size
 ·have d:=h.qZ a 4 14 c oO oO oK;have e1:modeF 4 14=0:=oK;have e2:modeF 1 30=4:=oK;have e3:modeF 2 29=0:=oK;have e4:modeF 3 31=0:=oK;have e:az 4=4:=rfl;have f:az 1=5:=rfl;have g:az 2=5:=rfl;have i:az 3=5:=rfl;rw[e1,e]at d;have j:m=0\/m=1\/m=2\/m=3\/m=4:=oO;rcases j with rfl|rfl|rfl|rfl|rfl
  ·omega
  ·have b:=h.qZ a 1 30 c oO oO oK;rw[e2,f]at b;omega
  ·have b:=h.qZ a 2 29 c oO oO oK;rw[e3,g]at b;omega
  ·have b:=h.qZ a 3 31 c oO oO oK;rw[e4,i]at b;omega
  ·omega
 ·rw[h.zero a m oO];omega
theorem cT.fin {p:ByteArray} {C:Nat->Nat->Nat} (c:p.size<=4096) (h:cT p C) (a m:Nat) (b:m<5):C a m<1073741824:=by
 have d:=h.MB a m b;have e:=h.up a;omega
structure Ht (p:ByteArray) (a m:Nat) (b:ay):Prop where
 nm:b.num<32
 s1:-1<=b.sec
 s2:b.sec<32
 rn:a+b.run<=p.size
 lg:0<b.run->b.long=true->31<=b.run
 sr:0<=b.sec->b.run=0
 ln:(cH p a m b).length=b.size
theorem DT:∀m,m<5->∀n,n<32->dU m n=3->az (modeF m n)=5:=of_decide_eq_true oK
def oP (p:ByteArray) (num a m:Nat) (b:ay):Prop:=b.run=0\/(b=⟨num,-1,b.run,b.long,(if b.long=true then az m+16 else az m+5)+8* b.run,a+b.run,m⟩/\0<b.run/\a+b.run<=p.size/\(b.long=true->31<=b.run))
theorem xV {C:Nat->Nat->Nat} {p:ByteArray} {num at_ m:Nat} {b:ay} {n:Nat} {lg:Bool} (hb:oP p num at_ m b) (hn:0<n) (c:at_+n<=p.size) (hl:lg=true->31<=n):oP p num at_ m (cY C num at_ m b n (if lg=true then az m+16 else az m+5) lg):=by
 obtain⟨sz,a⟩:∃sz,sz=(if lg=true then az m+16 else az m+5):=⟨_,rfl⟩;rw[<-a];unfold cY;split
 ·exact .inr ⟨by show(⟨num,-1,n,lg,sz+8* n,at_+n,m⟩:ay)=⟨num,-1,n,lg,(if lg=true then az m+16 else az m+5)+8* n,at_+n,m⟩;rw[<-a],hn,c,hl⟩
 ·exact hb
theorem vj {C:Nat->Nat->Nat} {p:ByteArray} {num at_ m:Nat}:∀k,(at_+30+k<=p.size\/k=0)->oP p num at_ m (eY C num at_ m k)
 |0,_=> .inl rfl
 |k+1,h=>xV (lg:=true) (vj k oO) oO oO (λ_=>by omega)
theorem tv {C:Nat->Nat->Nat} {p:ByteArray} {num at_ m K:Nat} (a:at_+30+K<=p.size\/K=0):∀k,at_+k<=p.size->oP p num at_ m (dG C num at_ m K k)
 |0,_=>vj K a
 |k+1,h=>xV (lg:=false) (tv a k oO) oO oO (λe=>by cases e)
theorem pD {C:Nat->Nat->Nat} {p:ByteArray} {num a m:Nat} (c:a<p.size):oP p num a m (eU C num a m (p.size-a))/\(eU C num a m (p.size-a)).run≠0:=by
 refine⟨tv oO _ oO,?_⟩;unfold eU;obtain⟨k,b⟩:∃k,min (p.size-a) 31=k+1:=⟨min (p.size-a) 31-1,by omega⟩;rw[b];exact mT oO
theorem oP.st {p:ByteArray} {num a m:Nat} {b:ay} (h:oP p num a m b) (c:b.run≠0) (hn:num<32):Ht p a m b:=by
 rcases h with h|⟨e,d,f,g⟩
 ·exact absurd h c
 ·have k:b.sec=-1:=by rw[e]
  have i:b.num=num:=by rw[e]
  have j:b.size=(if b.long=true then az m+16 else az m+5)+8* b.run:=by rw[e]
  refine⟨by rw[i];exact hn,by omega,by omega,f,λ_=>g,λh=>by omega,?_⟩;rw[j];unfold cH xi;rw[if_neg oO,if_pos d,List.append_nil];simp only[List.length_append,bM,sU];split
  ·simp only[List.length_append,bM];omega
  ·simp only[bM];omega
theorem Kj {C:Nat->Nat->Nat} {p:ByteArray} {a m n:Nat} (d:a<p.size) (e:m<5) (hn:n<32) {c:ay} (b:c∈dX C p a m n):Ht p a m c:=by
 have plain:∀(at_ md:Nat),Ht p a m ⟨n,-1,0,false,az m,at_,md⟩:=λat_ md=>by
  refine⟨hn,by show(-1:Int)<=-1;omega,by show(-1:Int)<32;omega,by show a+0<=_;omega,λh=>(by cases h),λh=>rfl,?_⟩;show(bh n (az m)++(if(0:Int)<=-1 then bh (-1:Int).toNat 5 else[])++[]).length=az m;rw[if_neg oO];simp[bM]
 unfold dX at b;split at b
 ·split at b
  ·rw[List.mem_singleton]at b;subst b;exact plain _ _
  ·cases b
 split at b
 ·rw[List.mem_singleton]at b;subst b;exact plain _ _
 split at b
 ·rename_i f
  have g:=DT m e n hn f;have key:∀k,k<=32->c∈optSK p a m n (modeF m n) k->Ht p a m c:=by
   intro k
   induction k with
   |zero=>intro _ h;cases h
   |succ k i=>
    intro j h;unfold optSK at h;rw[List.mem_append]at h;rcases h with h|h
    ·exact i oO h
    ·unfold l9 at h;split at h
     ·rw[List.mem_singleton]at h;subst h;refine⟨hn,by show(-1:Int)<=(k:Int);omega,by show(k:Int)<32;omega,by show a+0<=_;omega,λh=>(by cases h),λh=>rfl,?_⟩;show(bh n (az m)++(if(0:Int)<=(k:Int)then bh (k:Int).toNat 5 else[])++[]).length=az m+az (modeF m n);rw[if_pos oO,g];simp[bM]
     ·cases h
  exact key 32 (Nat.le_refl _) b
 split at b
 ·rw[List.mem_singleton]at b;subst b;exact(pD d).1.st (pD d).2 hn
 ·cases b
theorem Dn {C:Nat->Nat->Nat} {p:ByteArray} {a m:Nat} (c:a<p.size) (d:m<5) {b:ay}:∀k,k<=32->b∈bI C p a m k->Ht p a m b:=by
 intro k
 induction k with
 |zero=>intro _ h;cases h
 |succ k e=>
  intro f h;unfold bI at h;rw[List.mem_append]at h;rcases h with h|h
  ·exact e oO h
  ·exact Kj c d oO h
theorem cT.step {p:ByteArray} {C:Nat->Nat->Nat} (i:p.size<=4096) (h:cT p C) (a m:Nat) (g:a<p.size) (e:m<5):∃b,dq C p a m=some b/\b∈bI C p a m 32/\LG p C a m b:=by
 obtain⟨l,n,o⟩:∃b∈bI C p a m 32,b.bQ C=C a m:=by
  rcases(h.fix a g).2 m e with j|j
  ·have:=h.fin i a m e;omega
  ·exact j
 cases d:dq C p a m with
 |none=>
  unfold dq at d;rw[List.find?_eq_none]at d;exact absurd (by rw[o];simp) (d l n)
 |some b=>
  unfold dq at d;have f:=List.mem_of_find?_eq_some d;have r:=List.find?_some d;have q:b.bQ C=C a m:=by simpa using r
  have k:=pN g i e 32 f;have c:=Dn g e 32 (Nat.le_refl _) f;exact⟨b,rfl,f,⟨k.1,k.2.1,q.symm,r4 32 f,c.nm,c.s1,c.s2,c.rn,c.lg,c.sr,Nat.le_of_eq c.ln⟩⟩
def uO (p:ByteArray) (C:Nat->Nat->Nat):List Bool:=ij p (dq C p) (C 0 0) 0 0
theorem wj (A:Option Addr) (n c:Nat) (l:List UInt8) (w:World) (hb:SR vU 0 w A n c l) (hn:n<=4096):
 Calls Tryz.prog 30 #[.slice A n c] w λe w'=>∃C,cT ⟨l.toArray⟩ C/\RT vB false w (uO ⟨l.toArray⟩ C,0) e w':=by
 obtain⟨p,j⟩:∃p:ByteArray,p=⟨l.toArray⟩:=⟨_,rfl⟩;have s:n=p.size:=by rw[hb.hn,j];show l.length=l.toArray.size;simp
 have k:=Lib.hid s;have o:=yF A n c l w hb hn;rw[<-j]at o⊢;have J:=Lib.hid o;clear hb s o j;go_enter Tryz.func30,Tryz.ntmps30
 go_wp2_with(first
  |(go_at_call 80;refine J.out.mono ?_;rintro e z ⟨B,D,cap,hb,C,Q,rfl,hq,r,g,i,t⟩;have q:cT p C:=⟨λa b=>(g a (by rw[k.out];exact b)).1,λa m b=>i a m (by rw[k.out];exact b),hq.S.b⟩;have K:=Lib.hid q;have u:=Lib.hid t;have L:=Lib.hid (Ir z B D cap hb _ p C (dq C p) hq (r.uj (Nat.le_refl _) (λa m f _ v d=>(by
   by_cases b:a<n
   ·rw[(g a b).2 m];exact d
   ·exfalso;unfold dq at d;have P:=List.mem_of_find?_eq_some d;have E:0<C a m:=(by have F:=List.find?_some d;have M:f.bQ C=C a m:=(by simpa using F);have:=r4 32 P;unfold ay.bQ at M;omega);rw[i a m oO]at E
    omega))) (λa m b v=>(by obtain⟨f,G,_,H⟩:=q.step (by rw[<-k.out];exact hn) a m b v;exact⟨f,G,H⟩)));clear hq r g i t q)
  |(go_at_call 81;refine L.out.mono ?_;rintro e S ⟨T,rfl,x,y⟩;have N:=Lib.hid x;have O:=Lib.hid y;clear x y))
 go_ret2
 exact⟨C,K.out,RT.mk rfl N.out (u.out.trans (O.out.mono u.out.size))⟩
def Tag (w:World) (b:Nat) (t:TypeId):Prop:=∃a:Array Value,w.heap[b]?=some (.cells a t (0,0))
theorem Tag.ne {w:World} {a b:Nat} {t u:TypeId} (d:Tag w a t) (c:Tag w b u) (g:t≠u):a≠b:=by
 intro e;subst e;obtain⟨c1,d⟩:=d;obtain⟨i,c⟩:=c;rw[d]at c;injection c with c;injection c with _ f _;exact g f
theorem ae.tag {w:World} {b:Nat} {a:Array Value} {t:TypeId} (h:ae w b a t):Tag w b t:=⟨a,h⟩
section
variable {n : Nat} {w wr W : World} {db rb : Nat} {b0 b : List Bool} {mode : Nat} {out : List UInt8}
theorem By {base:Nat} {e:TypeId} {v:Value} {k:Nat} {xs:List Value} (h:wr.ownsRow base e 1 v k xs) (a:Addr) {t:TypeId} (i:Tag wr a.block t) (m:t≠e) (u:Value):(wr.setCell a u).ownsRow base e 1 v k xs:=by
 refine⟨h.1,?_⟩;rcases h.2 with c|⟨g,cap,f,j,c,d,l⟩
 ·exact .inl c
 ·refine .inr ⟨g,cap,f,j,c,(Below.heap_setCell _ _ _ _ ?_).trans d,l⟩;exact(Tag.ne i ⟨f,d⟩ m).symm
end
theorem Bx:Tryz.prog.underlying 26=some (.slice (Tryz.prog.elem 26)):=oK
theorem D7 (w:World):(sizeOf (Tryz.prog.elem 26)).run Tryz.prog w= .ok 1 w:=oK
end
section
open Go.RowKit
theorem FC (x y i:Nat) (a:y<=1):ie (2* x+y) (i+1)=ie x i:=by
 unfold ie;have e:(2* x+y)/2^(i+1)=x/2^i:=by
  rw[Nat.pow_succ,Nat.mul_comm (2^i) 2,<-Nat.div_div_eq_div_mul];congr 1;omega
 rw[e]
theorem F5 (x y:Nat) (a:y<=1):ie (2* x+y) 0=(y==1):=by
 unfold ie;rw[Nat.pow_zero,Nat.div_one];have e:(2* x+y)%2=y:=oO;rw[e]
theorem yl (x y j:Nat) (a:y<=1):∀k,k<=j->lowF (2* x+y) (j+1) k=lowF x j k
 |0,_=>rfl
 |k+1,h=>by
  show lowF _ _ k++[ie _ (j+1-1-k)]=lowF _ _ k++[ie _ (j-1-k)];rw[yl x y j a k oO,show j+1-1-k=(j-1-k)+1 from by omega,FC _ _ _ a]
theorem yg (x y j:Nat) (a:y<=1):bh (2* x+y) (j+1)=bh x j++[y==1]:=by
 show lowF _ _ j++[ie _ (j+1-1-j)]=_;rw[yl x y j a j (Nat.le_refl _),show j+1-1-j=0 from by omega,F5 _ _ a];rfl
def jt (b:List Bool) (k j:Nat):List Bool:=(List.range j).map λi=>b.getD (k+i) true
theorem o5 (b:List Bool) (k j:Nat):jt b k (j+1)=jt b k j++[b.getD (k+j) true]:=by
 unfold jt;rw[List.range_succ,List.map_append];rfl
theorem zr (b:List Bool) (k j:Nat):∀i,jt b k (j+i)=jt b k j++jt b (k+j) i
 |0=>by show jt b k j=_++[];rw[List.append_nil]
 |i+1=>by
  rw[<-Nat.add_assoc,o5,o5,zr b k j i,List.append_assoc,Nat.add_assoc]
theorem zR (b:List Bool) (k:Nat):(ic b k==1)=b.getD k true:=by
 unfold ic;by_cases h:k<b.length
 ·simp only[List.getD_eq_getElem?_getD,List.getElem?_eq_getElem h,Option.getD_some];cases b[k]<;>simp[h]
 ·have e:b.getD k true=true:=by rw[List.getD_eq_getElem?_getD,List.getElem?_eq_none oO];rfl
  rw[if_neg (λa=>h a.1),e];rfl
theorem Bf (b:List Bool) (k:Nat):∀j,bh (sfV b k j) j=jt b k j
 |0=>rfl
 |j+1=>by
  show bh (2* sfV b k j+ic b (k+j)) (j+1)=_;rw[yg _ _ _ (pV b _),Bf b k j,o5,zR]
theorem KT (t:Nat):2^(t+1)=2* 2^t:=by rw[Nat.pow_succ,Nat.mul_comm]
theorem Jz (b:List Bool) (s k:Nat) (hs:2<=s):1<=(ji b s k).1/\(ji b s k).1<2^s-1/\k+(s-1)<=(ji b s k).2/\(ji b s k).2<=k+s/\pI s (ji b s k).1=jt b k ((ji b s k).2-k):=by
 obtain⟨t,rfl⟩:∃t,s=t+1:=⟨s-1,by omega⟩;have j:=GI b k t;have d:=Bf b k t;have g:2<=2^t:=by
  have:=Nat.pow_le_pow_right (n:=2) oO (show 1<=t by omega);simpa using this
 have e2:=KT t;have f:(2^(t+1)-1)/2=2^t-1:=oO;unfold ji;rw[Nat.add_sub_cancel];generalize i:sfV b k t=v at*;by_cases a:v=0
 ·rw[if_pos a];refine⟨Nat.le_refl _,by show 1<_;omega,Nat.le_refl _,by show k+t<=_;omega,?_⟩;show pI (t+1) 1=jt b k (k+t-k);rw[Nat.add_sub_cancel_left,<-d,a];unfold pI;rw[if_pos (.inl rfl)];rfl
 ·rw[if_neg a];by_cases c:v=2^t-1
  ·rw[if_pos c];refine⟨by show 1<=2* v;omega,by show 2* v<_;omega,Nat.le_refl _,by show k+t<=_;omega,?_⟩;show pI (t+1) (2* v)=jt b k (k+t-k);rw[Nat.add_sub_cancel_left,<-d];unfold pI;have e:2* v/2=v:=oO;rw[e,if_pos (.inr (by rw[f];exact c))];rfl
  ·rw[if_neg c];have hb:=pV b (k+t);refine⟨by show 1<=2* v+_;omega,by show 2* v+_<_;omega,by show k+t<=k+(t+1);omega,Nat.le_refl _,?_⟩;show pI (t+1) (2* v+ic b (k+t))=jt b k (k+(t+1)-k);rw[Nat.add_sub_cancel_left];unfold pI;have e:(2* v+ic b (k+t))/2=v:=oO;rw[e,if_neg (by rw[f];omega),yg _ _ _ hb,d,o5,zR]
theorem we (b:List Bool) (s:Nat) (hs:2<=s):∀(f k:Nat),b.length<=f+k->k<b.length+s->
 (∀x∈stuffFrom b s f k,1<=x/\x<2^s-1)/\(stuffFrom b s f k).length<=b.length-k/\
 (k<b.length->(stuffFrom b s f k).length* (s-1)+k<=b.length+s-2)/\
 ∃e,b.length<=e/\e<b.length+s/\k<=e/\((stuffFrom b s f k).map (pI s)).flatten=jt b k (e-k)/\e-k<=(stuffFrom b s f k).length* s
 |0,k,g,c=>by
  refine⟨λx a=>(by cases a),Nat.zero_le _,λh=>absurd h oO,k,by omega,c,Nat.le_refl _,?_,by simp⟩;rw[Nat.sub_self];rfl
 |f+1,k,g,c=>by
  by_cases d:k<b.length
  ·have i:=Jz b s k hs;have e1:stuffFrom b s (f+1) k=(ji b s k).1::stuffFrom b s f (ji b s k).2:=by
    show(if k<b.length then _ else _)=_;rw[if_pos d]
   obtain⟨j,l,w,y,m⟩:=i;generalize ji b s k=q at*;obtain⟨n,z,o,e,p,t,A,u,i8⟩:=we b s hs f q.2 oO oO;rw[e1];generalize stuffFrom b s f q.2=r at*;refine⟨λx a=>?_,?_,λ_=>?_,e,p,t,by omega,?_,?_⟩
   ·rcases List.mem_cons.1 a with rfl|a
    ·exact⟨j,l⟩
    ·exact n x a
   ·rw[List.length_cons];omega
   ·rw[List.length_cons,Nat.succ_mul];by_cases h:q.2<b.length
    ·have:=o h;omega
    ·have v:r.length=0:=oO;rw[v];omega
   ·rw[List.map_cons,List.flatten_cons,u,m,show e-k=(q.2-k)+(e-q.2)from by omega,zr,show k+(q.2-k)=q.2 from by omega]
   ·rw[List.length_cons,Nat.succ_mul];omega
  ·rw[yi b s (f+1) k oO];refine⟨λx a=>(by cases a),Nat.zero_le _,λh=>absurd h d,k,by omega,c,Nat.le_refl _,?_,by simp⟩;rw[Nat.sub_self];rfl
theorem zn (s:Nat) (a:List Int):∀k,k<=a.length->Gp s a k=((a.take k).map λw=>pI s w.toNat).flatten
 |0,_=>rfl
 |k+1,h=>by
  show Gp s a k++pI s (a.getD k 0).toNat=_;rw[zn s a k oO,List.take_add_one,List.getElem?_eq_getElem oO,List.map_append,List.flatten_append];congr 1;rw[List.getD_eq_getElem?_getD,List.getElem?_eq_getElem oO];simp
def zN (l:List Nat):List Int:=l.map λx:Nat=>(x:Int)
theorem L3 (l:List Nat):(zN l).length=l.length:=by simp[zN]
theorem LF (s:Nat) (l:List Nat):Gp s (zN l) (zN l).length=(l.map (pI s)).flatten:=by
 rw[zn s (zN l) _ (Nat.le_refl _),List.take_length];congr 1;unfold zN;rw[List.map_map];rfl
theorem ra (b:List Bool) (s:Nat) (hs:2<=s) (u:s<=12) (hb:b.length<=80000):∃e,b.length<=e/\e<b.length+s/\vE (zN (aU b s)) s=(jt b 0 e,0)/\
 b.length<=(aU b s).length* s/\(aU b s).length* (s-1)<=b.length+s-2/\(∀x∈aU b s,1<=x/\x<2^s-1)/\(aU b s).length<=b.length:=by
 obtain⟨a,c,i,e,j,k,t,l,m⟩:=we b s hs b.length 0 oO oO;refine⟨e,j,k,?_,?_,?_,a,by have n:(aU b s).length<=b.length-0:=c;omega⟩
 ·have hl:(aU b s).length<=b.length:=c;have q:L4 s (zN (aU b s))=true:=by
   unfold L4;rw[List.all_eq_true];intro x d;obtain⟨y,f,rfl⟩:=List.mem_map.1 d;have:=a y f;rw[decide_eq_true oO,decide_eq_true oO];rfl
  have r:okW s (zN (aU b s))=true:=by
   unfold okW;rw[List.all_eq_true];intro x d;obtain⟨y,f,rfl⟩:=List.mem_map.1 d;have:=a y f;rw[beq_eq_false_iff_ne.2 oO,beq_eq_false_iff_ne.2 oO];rfl
  have hq:¬1048576/(s:Int)<((zN (aU b s)).length:Int):=by
   rw[L3];have n:(87381:Int)<=1048576/(s:Int):=(Int.le_ediv_iff_mul_le oO).2 oO;omega
  unfold vE;rw[if_neg oO,if_neg (by rw[show((s:Nat):Int).toNat=s from rfl,q];simp),if_neg hq,if_neg (by rw[show((s:Nat):Int).toNat=s from rfl,r];simp)];rw[show((s:Nat):Int).toNat=s from rfl,LF];have g:=l;rw[Nat.sub_zero]at g;rw[show((aU b s).map (pI s)).flatten=jt b 0 e from g]
 ·have v:e-0<=(aU b s).length* s:=m;omega
 ·by_cases o:0<b.length
  ·have:=i o;exact this
  ·have p:(aU b s).length=0:=by
    have:(aU b s).length<=b.length-0:=c;omega
   rw[p];omega
end
section
open Go.RowKit Go.WideMaps Go.Maps
inductive Atom (p:ByteArray) (a m:Nat):ay->Prop
 |chars (n:Nat):n<32->dU m n=1->preB p a (iC m n)=true->Atom p a m ⟨n,-1,0,false,az m,a+(iC m n).size,m⟩
 |qZ (n:Nat):n<32->dU m n=2->Atom p a m ⟨n,-1,0,false,az m,a,modeF m n⟩
 |shift (n s:Nat):n<32->dU m n=3->s<32->dU (modeF m n) s=1->preB p a (iC (modeF m n) s)=true->Atom p a m ⟨n,(s:Int),0,false,az m+az (modeF m n),a+(iC (modeF m n) s).size,m⟩
 |short (n j:Nat):n<32->dU m n=4->1<=j->j<=31->a+j<=p.size->Atom p a m ⟨n,-1,j,false,az m+5+8* j,a+j,m⟩
 |long (n j:Nat):n<32->dU m n=4->31<=j->j<=2078->a+j<=p.size->Atom p a m ⟨n,-1,j,true,az m+16+8* j,a+j,m⟩
theorem IM {p:ByteArray} {a m n:Nat} {b:ay} (hn:n<32) (c:dU m n=4) (h:oP p n a m b) (g:b.run≠0) (hs:b.long=false->b.run<=31) (hl:b.run<=2078):Atom p a m b:=by
 rcases h with h|⟨e,i,d,j⟩
 ·exact absurd h g
 ·rw[e];cases f:b.long with
  |true=>
   have:=Atom.long (p:=p) (a:=a) (m:=m) n b.run hn c (j f) hl d;simpa using this
  |false=>
   have:=Atom.short (p:=p) (a:=a) (m:=m) n b.run hn c i (hs f) d;simpa using this
def vh (a:ay):Prop:=(a.long=false->a.run<=31)/\a.run<=2078
theorem wB {C:Nat->Nat->Nat} {num at_ m:Nat} {a:ay} {n sz:Nat} {lg:Bool} (hb:vh a) (b:lg=false->n<=31) (c:n<=2078):vh (cY C num at_ m a n sz lg):=by
 unfold cY;split
 ·exact⟨b,c⟩
 ·exact hb
theorem th {C:Nat->Nat->Nat} {num at_ m:Nat}:∀k,k<=2048->vh (eY C num at_ m k)
 |0,_=>⟨λ_=>Nat.zero_le _,Nat.zero_le _⟩
 |k+1,h=>wB (th k oO) (λe=>by cases e) oO
theorem rU {C:Nat->Nat->Nat} {num at_ m K:Nat} (a:K<=2048):∀k,k<=31->vh (dG C num at_ m K k)
 |0,_=>th K a
 |k+1,h=>wB (rU a k oO) (λ_=>by omega) oO
theorem Ct {C:Nat->Nat->Nat} {p:ByteArray} {n a m:Nat} (c:a<p.size) (hn:n<32) (d:dU m n=4):Atom p a m (eU C n a m (p.size-a)):=by
 obtain⟨e,f⟩:=pD (C:=C) (num:=n) (m:=m) c;have b:vh (eU C n a m (p.size-a)):=rU oO _ oO;exact IM hn d e f b.1 b.2
theorem yx {p:ByteArray} {a m n md:Nat} {b:ay}:∀k,b∈optSK p a m n md k->∃s,s<k/\b∈l9 p a m n md s
 |0,h=>by cases h
 |k+1,h=>by
  unfold optSK at h;rw[List.mem_append]at h;rcases h with h|h
  ·obtain⟨s,d,c⟩:=yx k h;exact⟨s,by omega,c⟩
  ·exact⟨k,by omega,h⟩
theorem xS {p:ByteArray} {a m n md s:Nat} {b:ay} (h:b∈l9 p a m n md s):∀k,s<k->b∈optSK p a m n md k
 |0,c=>by omega
 |k+1,c=>by
  unfold optSK;rw[List.mem_append];by_cases e:s=k
  ·subst e;exact .inr h
  ·exact .inl (xS h k oO)
theorem GN {C:Nat->Nat->Nat} {p:ByteArray} {a m n:Nat} (e:a<p.size) (hn:n<32) {c:ay} (b:c∈dX C p a m n):Atom p a m c:=by
 unfold dX at b;split at b
 ·split at b
  ·rw[List.mem_singleton]at b;subst b;exact .chars n hn (by assumption) (by assumption)
  ·cases b
 split at b
 ·rw[List.mem_singleton]at b;subst b;exact .qZ n hn (by assumption)
 split at b
 ·rename_i f
  obtain⟨s,hs,h⟩:=yx 32 b;unfold l9 at h;split at h
  ·rename_i d
   rw[List.mem_singleton]at h;subst h;exact .shift n s hn f hs d.1 d.2
  ·cases h
 split at b
 ·rw[List.mem_singleton]at b;subst b;exact Ct e hn (by assumption)
 ·cases b
theorem zj {C:Nat->Nat->Nat} {p:ByteArray} {a m:Nat} {b:ay}:∀k,b∈bI C p a m k->∃n,n<k/\b∈dX C p a m n
 |0,h=>by cases h
 |k+1,h=>by
  unfold bI at h;rw[List.mem_append]at h;rcases h with h|h
  ·obtain⟨s,d,c⟩:=zj k h;exact⟨s,by omega,c⟩
  ·exact⟨k,by omega,h⟩
theorem yw {C:Nat->Nat->Nat} {p:ByteArray} {a m:Nat} (c:a<p.size) {b:ay} (d:b∈bI C p a m 32):Atom p a m b:=by
 obtain⟨n,hn,h⟩:=zj 32 d;exact GN c hn h
theorem Atom.opt {C:Nat->Nat->Nat} {p:ByteArray} {a m:Nat} (o:a<p.size) {c:ay} (h:Atom p a m c):∃g∈dX C p a m c.num,g.bQ C<=c.bQ C/\(c.run=0->g=c):=by
 cases h with
 |chars n hn b d=>
  refine⟨_,?_,Nat.le_refl _,λ_=>rfl⟩;show _∈dX C p a m n;unfold dX;rw[if_pos b,if_pos d];exact List.mem_singleton.2 rfl
 |qZ n hn b=>
  refine⟨_,?_,Nat.le_refl _,λ_=>rfl⟩;show _∈dX C p a m n;unfold dX;rw[b,if_neg oO,if_pos rfl];exact List.mem_singleton.2 rfl
 |shift n s hn b hs l d=>
  refine⟨_,?_,Nat.le_refl _,λ_=>rfl⟩;show _∈dX C p a m n;unfold dX;rw[b,if_neg oO,if_neg oO,if_pos rfl];refine xS (s:=s) ?_ 32 hs;unfold l9;rw[if_pos ⟨l,d⟩];exact List.mem_singleton.2 rfl
 |short n j hn b f i k=>
  refine⟨eU C n a m (p.size-a),?_,sH _ _ f oO,λe=>by simp only at e;omega⟩;show _∈dX C p a m n;unfold dX;rw[b,if_neg oO,if_neg oO,if_neg oO,if_pos rfl];exact List.mem_singleton.2 rfl
 |long n j hn b f i k=>
  refine⟨eU C n a m (p.size-a),?_,?_,λe=>by simp only at e;omega⟩
  ·show _∈dX C p a m n;unfold dX;rw[b,if_neg oO,if_neg oO,if_neg oO,if_pos rfl];exact List.mem_singleton.2 rfl
  ·exact Nat.le_trans (qj oO _).1 (BC _ _ f oO)
theorem Atom.LS {p:ByteArray} {a m:Nat} {b:ay} (h:Atom p a m b):b.num<32:=by cases h<;>assumption
theorem Atom.size_pos {p:ByteArray} {a m:Nat} {b:ay} (h:Atom p a m b):4<=b.size:=by
 have:=vu m;cases h<;>simp only<;>omega
theorem Atom.Kx {p:ByteArray} {a m:Nat} (c:m<5) {b:ay} (h:Atom p a m b):b.mode<5:=by
 cases h<;>simp only<;>first|exact uv _ _|exact c
structure JU (p:ByteArray) (C:Nat->Nat->Nat):Prop where
 le:∀a m,a<p.size->m<5->∀b,Atom p a m b->C a m<=b.bQ C
 ex:∀a m,a<p.size->m<5->∃b,Atom p a m b/\b.bQ C=C a m
 zero:∀a m,p.size<=a->C a m=0
theorem cT.ac {p:ByteArray} {C:Nat->Nat->Nat} (i:p.size<=4096) (h:cT p C):JU p C:=by
 refine⟨λa m b c f g=>?_,λa m b c=>?_,h.zero⟩
 ·obtain⟨j,d,e,_⟩:=g.opt (C:=C) b;exact Nat.le_trans ((h.fix a b).1 m c j (qv d 32 g.LS)) e
 ·rcases(h.fix a b).2 m c with d|⟨f,d,e⟩
  ·have:=h.fin i a m c;omega
  ·exact⟨f,yw b d,e⟩
def IQ (p:ByteArray) (C:Nat->Nat->Nat) (a:Nat):Bool:=(List.range 5).all λm=>(bI C p a m 32).all (λb=>decide (C a m<=b.bQ C))&&(bI C p a m 32).any (λb=>b.bQ C==C a m)
theorem lO.Lw {p:ByteArray} {C:Nat->Nat->Nat} {a:Nat} (h:IQ p C a=true):lO C p a:=by
 unfold IQ at h;rw[List.all_eq_true]at h;refine⟨λm d c e=>?_,λm d=> .inr ?_⟩
 ·have b:=h m (List.mem_range.2 d);rw[Bool.and_eq_true,List.all_eq_true]at b;exact of_decide_eq_true (b.1 c e)
 ·have b:=h m (List.mem_range.2 d);rw[Bool.and_eq_true,List.any_eq_true]at b;obtain⟨c,e,f⟩:=b.2;exact⟨c,e,by simpa using f⟩
def Ae (l:List (List Nat)) (a m:Nat):Nat:=(l.getD a []).getD m 0
theorem Lc {l:List Nat} {B:Nat} (h:l.all (λx=>decide (x<=B))=true) (m:Nat):l.getD m 0<=B:=by
 rw[List.all_eq_true]at h;by_cases a:m<l.length
 ·have:=h l[m] (List.getElem_mem a);simp only[List.getD,List.getElem?_eq_getElem a,Option.getD_some];exact of_decide_eq_true this
 ·simp only[List.getD,List.getElem?_eq_none (show l.length<=m by omega),Option.getD_none];omega
theorem Cg {p:ByteArray} {l:List (List Nat)} (hl:l.length=p.size) (hb:l.all (λr=>r.all (λx=>decide (x<=1073741824)))=true) (hc:(List.range l.length).all (IQ p (Ae l))=true):cT p (Ae l):=by
 refine⟨λa b=>?_,λa m b=>?_,λa m=>?_⟩
 ·rw[List.all_eq_true]at hc;exact lO.Lw (hc a (List.mem_range.2 oO))
 ·have e:l.getD a []=[]:=by rw[List.getD_eq_getElem?_getD,List.getElem?_eq_none oO];rfl
  unfold Ae;rw[e];simp
 ·unfold Ae;rw[List.all_eq_true]at hb;by_cases b:a<l.length
  ·have e:l.getD a []=l[a]:=by rw[List.getD_eq_getElem?_getD,List.getElem?_eq_getElem b];rfl
   rw[e];exact Lc (hb l[a] (List.getElem_mem b)) m
  ·have e:l.getD a []=[]:=by rw[List.getD_eq_getElem?_getD,List.getElem?_eq_none oO];rfl
   rw[e];simp
theorem Aw {p:ByteArray} {C C':Nat->Nat->Nat} (c:p.size<=4096) (h:∀a m,m<5->C a m=C' a m) (a m:Nat) (d:a<p.size) (b:m<5):dq C p a m=dq C' p a m:=by
 unfold dq;rw[pj (C:=C) (C':=C') (λa' _=>h a' m b) 32];refine find_congr λf e=>?_;unfold ay.bQ;rw[h _ _ (pN d c b 32 e).2.1,h a m b]
theorem DW {p:ByteArray} {C:Nat->Nat->Nat} (d:p.size<=4096) {a m:Nat} (e:a<p.size) (f:m<5) {b:ay} (h:dq C p a m=some b):b.mode<5/\b∈bI C p a m 32/\b.bQ C=C a m:=by
 unfold dq at h;have c:=List.mem_of_find?_eq_some h;have g:=List.find?_some h;exact⟨(pN e d f 32 c).2.1,c,by simpa using g⟩
theorem D9 {p:ByteArray} {c d:Nat->Nat->Option ay} (h:∀a m,a<p.size->m<5->c a m=d a m) (i:∀a m b,a<p.size->m<5->c a m=some b->b.mode<5):∀f a m,m<5->ij p c f a m=ij p d f a m:=by
 intro f
 induction f with
 |zero=>intro a m _;rfl
 |succ f j=>
  intro a m g;show(if a<p.size then(match c a m with|some b=>cH p a m b++ij p c f b.at_ b.mode|none=>[])else[])=(if a<p.size then(match d a m with|some b=>cH p a m b++ij p d f b.at_ b.mode|none=>[])else[]);split
  ·rename_i e
   rw[<-h a m e g];cases hs:c a m with
   |none=>rfl
   |some b=>
    show _++_=_++_;rw[j _ _ (i a m b e g hs)]
  ·rfl
theorem Ch {p:ByteArray} {C C':Nat->Nat->Nat} (d:p.size<=4096) (h:∀a m,m<5->C a m=C' a m) (f a m:Nat) (b:m<5):ij p (dq C p) f a m=ij p (dq C' p) f a m:=
 D9 (λa m c b=>Aw d h a m c b) (λa m g c b e=>(DW d c b e).1) f a m b
theorem uT {p:ByteArray} {C C':Nat->Nat->Nat} (b:p.size<=4096) (h:cT p C) (c:cT p C'):uO p C=uO p C'/\C 0 0=C' 0 0:=by
 have e:∀a m,m<5->C a m=C' a m:=λa m d=>h.uniq b c a m d;unfold uO;rw[e 0 0 oO,Ch b e _ _ _ oO];exact⟨rfl,rfl⟩
abbrev pA:ByteArray:=⟨#[65]⟩
theorem Lx:cT pA (Ae [[5,10,10,10,9]]):=Cg rfl rfl oK
theorem Ml {C:Nat->Nat->Nat} (h:cT pA C):C 0 0=5:=(uT oD h Lx).2
end
end Go.Proofs.YtmnlkganmgcpbaaGreatDoor
