import Derived.Test.YtmnlkganmgcpbaaGreatDoorQe3
import Derived.Maps.OwnOps
set_option maxRecDepth 100000
set_option maxHeartbeats 4000000
set_option linter.unusedVariables false
set_option linter.unusedSectionVars false
set_option linter.unusedSimpArgs false
namespace Go.Proofs.YtmnlkganmgcpbaaGreatDoor
section
open Go.RowKit
def preB (p:ByteArray) (at_:Nat) (a:ByteArray):Bool:=Lib.hasPrefix (p.extract at_ p.size).data.toList a.data.toList
def eW (p:ByteArray) (at_ m n md s:Nat):List an:=
 if cf md s=1/\preB p at_ (cW md s)=true then[⟨n,(s:Int),0,false,aj m+aj md,at_+(cW md s).size,m⟩]else[]
def optSK (p:ByteArray) (at_ m n md:Nat):Nat->List an
 |0=>[]
 |k+1=>optSK p at_ m n md k++eW p at_ m n md k
def bC (C:Nat->Nat->Nat) (p:ByteArray) (at_ m n:Nat):List an:=
 if cf m n=1 then(if preB p at_ (cW m n)=true then[⟨n,-1,0,false,aj m,at_+(cW m n).size,m⟩]else[])
 else if cf m n=2 then[⟨n,-1,0,false,aj m,at_,modeF m n⟩]
 else if cf m n=3 then optSK p at_ m n (modeF m n) 32
 else if cf m n=4 then[cR C n at_ m (p.size-at_)]
 else[]
def bF (C:Nat->Nat->Nat) (p:ByteArray) (at_ m:Nat):Nat->List an
 |0=>[]
 |k+1=>bF C p at_ m k++bC C p at_ m k
theorem Im (p:ByteArray) (at_ m n md s:Nat):(eW p at_ m n md s).length<=1:=by unfold eW;split<;>simp
theorem lT (p:ByteArray) (at_ m n md:Nat):∀k,(optSK p at_ m n md k).length<=k
 |0=>Nat.le_refl _
 |k+1=>by
  have a:=lT p at_ m n md k;have b:=Im p at_ m n md k;unfold optSK;rw[List.length_append];omega
theorem IZ (C:Nat->Nat->Nat) (p:ByteArray) (at_ m n:Nat):(bC C p at_ m n).length<=32:=by
 have h:=lT p at_ m n (modeF m n) 32;unfold bC;generalize optSK p at_ m n (modeF m n) 32=l at*;generalize cR C n at_ m (p.size-at_)=q;generalize preB p at_ (cW m n)=z;generalize cf m n=a;by_cases b:a=1
 ·rw[if_pos b];cases z<;>simp
 ·rw[if_neg b];by_cases c:a=2
  ·rw[if_pos c];simp
  ·rw[if_neg c];by_cases d:a=3
   ·rw[if_pos d];exact h
   ·rw[if_neg d];split<;>simp
theorem qb (C:Nat->Nat->Nat) (p:ByteArray) (at_ m:Nat):∀k,(bF C p at_ m k).length<=32* k
 |0=>Nat.le_refl _
 |k+1=>by
  have a:=qb C p at_ m k;have b:=IZ C p at_ m k;unfold bF;rw[List.length_append];omega
theorem pJ (m n:Nat):modeF m n<5:=by unfold modeF;split<;>omega
theorem ky:∀m,m<5->∀n,n<32->(cW m n).size<=2:=of_decide_eq_true oK
theorem GC:(Tryz.prog.info? 181).map (λi=>(i.zero,i.size,i.bytes))=some (some (.agg #[.int .i64 0,.int .i64 0,.int .i64 0,.bool false,.int .i64 0,.int .i64 0,.int .i64 0]),7,56):=oK
structure gS (w wr:World) (v:Value) (l:List an):Prop where
 B:af w wr
 O:wr.ownsRow w.heap.size 181 7 v l.length (l.flatMap an.aC)
theorem gS.start (w wr:World) (h:af w wr):gS w wr (.slice none 0 0) []:=⟨h,World.ownsRow_nil _ _ _ _⟩
theorem gS.below {w wr W:World} {v:Value} {l:List an} (h:gS w wr v l) (a:Below wr.heap.size wr W):gS w W v l:=⟨ab h.B a,ah h.O a⟩
theorem gS.lift {w b wr:World} {v:Value} {l:List an} (h:gS b wr v l) (c:af w b):gS w wr v l:=by
 refine⟨ab c h.B,h.O.1,?_⟩;rcases h.O.2 with a|⟨g,cap,f,d,a,e⟩
 ·exact .inl a
 ·exact .inr ⟨g,cap,f,d,Nat.le_trans c.size a,e⟩
theorem ub {w wr W:World} {v:Value} {l:List an} (h:gS w wr v l) (d:Below wr.heap.size wr W) (e:TypeId) (b:Addr) (c:Nat) (x:an) (hc:∀j u,x.aC[j]?=some u->W.cell? (b.add j)=some u) (hl:l.length<=5000):
 ∃a w',(Builtin.append_ #[218,218] e #[v,.slice (some b) 1 c]).run Tryz.prog W= .ok a w'/\gS w w' a (l++[x])/\W.grownBy w' v.ownBlock/\(a.ownBlock=v.ownBlock\/a.ownBlock=some W.heap.size):=by
 obtain⟨i,m,q,r,s⟩:=info_parts GC;have f:=ah h.O d;have hB:=ab h.B d;obtain⟨a,w',t,n,g,_,o⟩:=run_append_own_at (P:=Tryz.prog) W w.heap.size 218 e 181 i _ 7 56 Tryz.underlying218 m q r s rfl oO v l.length _ f b 1 c x.aC (by rfl) hc (an.one x) oM oO hB.size;refine⟨a,w',t,⟨hB.grown g hB.size (λk p=>(f.lt k p).1),?_⟩,g,o⟩;rw[List.length_append,List.flatMap_append,List.flatMap_singleton];exact n
theorem jF {f:Array Oper} {g:List Oper} {b:Oper} {a:Act} {Q:Exit->Act->World->Prop} {w wr W:World} {v:Value} {l:List an} (h:gS w wr v l) (i:Below wr.heap.size wr W) (q:b.guard=none) (s y:Operand)
 (k:b.op= .call {callee:= .builtin .append,args:=#[s,y],argTypes:=#[218,218]}) (hs:a.eval s=v) (e:Addr) (c:Nat) (x:an) (m:a.eval y= .slice (some e) 1 c)
 (hc:∀j u,x.aC[j]?=some u->W.cell? (e.add j)=some u) (hl:l.length<=5000) (n:∀d w',Hid (gS w w' d (l++[x]))->wpList Tryz.prog f Q g (a.put b.dst d) w'):wpList Tryz.prog f Q (b::g) a W:=by
 refine wpList_plain q λK o=>?_;obtain⟨d,w',r,p,t⟩:=ub h i b.type e c x hc hl;unfold Oper.wp execOp;simp only[k,resolve,invoke,builtin,Sem.run_bind,Sem.run_pure,Result.andThen_ok,List.map_toArray,List.map_cons,List.map_nil,hs,m,r];exact o _ _ (n d w' p)
theorem uC {d:Oper} {a:Act} {w wr W:World} {v:Value} {l:List an} (h:gS w wr v l) (f:Below wr.heap.size wr W) (s y:Operand)
 (g:d.op= .call {callee:= .builtin .append,args:=#[s,y],argTypes:=#[218,218]}) (hs:a.eval s=v) (e:Addr) (c:Nat) (x:an) (i:a.eval y= .slice (some e) 1 c)
 (hc:∀j u,x.aC[j]?=some u->W.cell? (e.add j)=some u) (hl:l.length<=5000):∃b w',(execOp a.eval d).run Tryz.prog W= .ok (.value b) w'/\gS w w' b (l++[x])/\W.grownBy w' v.ownBlock/\(b.ownBlock=v.ownBlock\/b.ownBlock=some W.heap.size):=by
 obtain⟨b,w',n,k,m⟩:=ub h f d.type e c x hc hl;refine⟨b,w',?_,k,m⟩;unfold execOp;simp only[g,resolve,invoke,builtin,Sem.run_bind,Sem.run_pure,Result.andThen_ok,List.map_toArray,List.map_cons,List.map_nil,hs,i,n]
theorem uS {f:Array Oper} {S:World->Prop} {K:Act->World->Prop} {r:List (Bool×Nat×Oper)} {k:Nat} {d:Oper} {a:Act} {w wr W:World} {v:Value} {l:List an} (h:gS w wr v l) (i:Below wr.heap.size wr W)
 (z:Region.wanted d (yielded f a.tmps)=true) (s y:Operand)
 (m:d.op= .call {callee:= .builtin .append,args:=#[s,y],argTypes:=#[218,218]}) (hs:a.eval s=v) (e:Addr) (c:Nat) (x:an) (n:a.eval y= .slice (some e) 1 c)
 (hc:∀j u,x.aC[j]?=some u->W.cell? (e.add j)=some u) (hl:l.length<=5000)
 (o:∀b w',gS w w' b (l++[x])->W.grownBy w' v.ownBlock->(b.ownBlock=v.ownBlock\/b.ownBlock=some W.heap.size)->S w'/\bG Tryz.prog f S K r (a.put d.dst b) w'):bG Tryz.prog f S K ((true,k,d)::r) a W:=by
 obtain⟨b,w',A,p,q,t⟩:=uC h i s y m hs e c x n hc hl;have g:=o b w' p q t;exact ie z A g.1 g.2
theorem bS {W:World} {b:Nat} {a:List Value} (h:ai W b a):∀j v,a[j]?=some v->W.cell? ((⟨b,0,none⟩:Addr).add j)=some v:=by
 intro j v c;have hl:j<a.length:=by
  rcases Nat.lt_or_ge j a.length with d|d
  ·exact d
  ·rw[List.getElem?_eq_none d]at c;cases c
 rw[add_plain,Nat.zero_add,h.2 j hl];simp[List.getD,c]
theorem an.KM (a:an):a.val= .agg #[.int .i64 (a.num:Int),.int .i64 a.sec,.int .i64 (a.run:Int),.bool a.long,.int .i64 (a.size:Int),.int .i64 (a.at_:Int),.int .i64 (a.mode:Int)]:=rfl
theorem mN (W:World) (x:an) (a:TypeId) (b:Nat) (hb:b=W.heap.size):∀j u,x.aC[j]?=some u->(W.alloc (.cells x.aC.toArray a)).cell? ((⟨b,0,none⟩:Addr).add j)=some u:=nD (an.cells W x a b hb)
theorem qZ {a:Act} {e:Oper} {W:World} {b g cap hb:Nat} {p:ByteArray} {C:Nat->Nat->Nat} {q:Operand} (h:SW W b g cap hb p C) (i:e.op= .load 169 q) (f m:Nat) (k:a.eval q= .pointer (some ⟨b,f,none⟩)) (l:f=1+m* 96) (n:m<5):
 (execOp a.eval e).run Tryz.prog W= .ok (.value (.agg (nk m).toArray)) W:=by
 subst l
 have o:=fH (P:=Tryz.prog) W 169 _ ⟨b,1+m* 96,none⟩ (nk m) Tryz.underlying169 rfl (by rw[p8];kernel_rfl) (λj v c=>by
  have hl:j<96:=by
   rcases Nat.lt_or_ge j 96 with d|d
   ·exact d
   ·rw[List.getElem?_eq_none (by rw[p8];exact d)]at c;cases c
  rw[add_plain,Nat.add_assoc];refine h.ct _ _ ?_
  rw[Di m j n hl];exact c)
 unfold execOp;simp only[i,k,Instr.loadAt,Instr.sureAddr,Sem.run_bind,Sem.run_pure,Result.andThen_ok,o]
theorem ji {a:Act} {f:Oper} {W:World} (c:TypeId) (d:TypeDesc) (g:Tryz.prog.underlying c=some d) (i:aggD d=true) {q:Operand} (j:f.op= .load c q) (b:Nat) (e:List Value) (k:(Tryz.prog.info? c).map (·.size)=some e.length) (l:a.eval q= .pointer (some ⟨b,0,none⟩)) (h:ai W b e):
 (execOp a.eval f).run Tryz.prog W= .ok (.value (.agg e.toArray)) W:=by
 have m:=fH (P:=Tryz.prog) W c d ⟨b,0,none⟩ e g i k (bS h);unfold execOp;simp only[j,l,Instr.loadAt,Instr.sureAddr,Sem.run_bind,Sem.run_pure,Result.andThen_ok,m]
theorem ai.grown {W a:World} {b:Nat} {c:List Value} {row:Option Nat} (h:ai W b c) (hg:W.grownBy a row) (f:∀q,row=some q->q≠b):ai a b c:=
 ⟨Nat.lt_of_lt_of_le h.1 hg.size,λi d=>(hg.cell_far ⟨b,i,none⟩ h.1 (λe=>f b e.symm rfl)).trans (h.2 i d)⟩
theorem iA:(Tryz.prog.info? 168).map (·.zero)=some (some (.agg #[.int .i64 0,.int .i64 0,.string ByteArray.empty])):=oK
theorem jl:(Tryz.prog.info? 179).map (·.zero)=some (some (.agg #[.int .i64 0,.int .i64 0])):=oK
theorem dq:(Tryz.prog.info? 179).map (·.size)=some 2:=oK
theorem fl (a b:Int):∀v∈[Value.int .i64 a,.int .i64 b],v.oneCell'=true:=by
 intro v c;simp only[List.mem_cons,List.not_mem_nil,or_false]at c;rcases c with rfl|rfl<;>rfl
theorem By (at_ m:Nat) (w:World) (t H cap hb:Nat) (p:ByteArray) (C:Nat->Nat->Nat) (h:SW w t H cap hb p C) (cx:at_<p.size) (a8:m<5):
 Calls Tryz.prog 179 #[.pointer (some ⟨t,0,none⟩),.agg #[.int .i64 (at_:Int),.int .i64 (m:Int)]] w
  λe w'=>∃v,e= .returned v/\gS w w' v (bF C p at_ m 32):=by
 have d3:=h.hp;have c2:=Lib.hid h;have ea:(m:Int)<5:=oO;have ec:at_<=4096:=oO;have ed:at_<=p.size:=oO;have a9:Hid (ai (w.alloc (.cells #[.int .i64 (at_:Int),.int .i64 (m:Int)] 179)) w.heap.size [.int .i64 (at_:Int),.int .i64 (m:Int)]):=ai.new w #[.int .i64 (at_:Int),.int .i64 (m:Int)] _ _ rfl;have bi:Hid (SW (w.alloc (.cells #[.int .i64 (at_:Int),.int .i64 (m:Int)] 179)) t H cap hb p C):=h.below (ar _ _);have b6:Hid (af w (w.alloc (.cells #[.int .i64 (at_:Int),.int .i64 (m:Int)] 179))):=ar _ _;clear h c2;go_enter Tryz.func179,Tryz.ntmps179;go_wp2;generalize w.alloc (.cells #[.int .i64 (at_:Int),.int .i64 (m:Int)] 179)=w1 at*;have a0:Hid (∀W,af w1 W->W.cell? ⟨t,0,none⟩=some (.string p)/\W.cell? ⟨w.heap.size,0,none⟩=some (.int .i64 (at_:Int))/\W.cell? ⟨w.heap.size,1,none⟩=some (.int .i64 (m:Int))):=by
  show∀W,_;intro W d;have b2:=a9.out.below d;exact⟨(bi.out.below d).c0,b2.2 0 oS,b2.2 1 oS⟩
 refine yO (af w1) [1,2,3,4,5,6,7,8] (ak (Below.refl _ _)) ?_
 repeat refine zO a0.out ?_
 refine ag ?_;have bb:=(a0.out w1.drew (ak (Below.refl _ _))).2.2;go_wp2_with(go_at_call 132;refine(jn m _).mono ?_;rintro e w' ⟨rfl,f⟩;rw[f];clear f)
 have y:Hid (∀W,af w1.drew W->W.cell? ⟨t,0,none⟩=some (.string p)/\W.cell? ⟨w.heap.size,0,none⟩=some (.int .i64 (at_:Int))/\W.cell? ⟨w.heap.size,1,none⟩=some (.int .i64 (m:Int))):=λW d=>a0.out W (ab (ak (Below.refl _ _)) d);have bo:Hid (SW w1.drew t H cap hb p C):=bi.out.below (ak (Below.refl _ _));have b7:Hid (af w w1.drew):=ak b6.out;have b8:Hid (ai w1.drew w.heap.size [.int .i64 (at_:Int),.int .i64 (m:Int)]):=a9.out.below (ak (Below.refl _ _));clear a9 bi b6 a0 bb;generalize w1.drew=w2 at*;refine yO (af w2) [1,2,3,4,5,6,7,8] (ak (Below.refl _ _)) ?_;refine zO y.out ?_;refine zO y.out ?_;refine zO y.out ?_;refine zO y.out ?_;refine zO y.out ?_;refine zO y.out ?_;refine' zV rfl (λW d=>qZ (bo.out.below d) rfl _ m rfl oO a8) ?_
 repeat refine zO y.out ?_
 refine ag ?_;have z:Hid (SW w2.drew t H cap hb p C):=bo.out.below (ak (Below.refl _ _));have c6:Hid (af w w2.drew):=ak b7.out;have b9:Hid (ai w2.drew w.heap.size [.int .i64 (at_:Int),.int .i64 (m:Int)]):=b8.out.below (ak (Below.refl _ _));have bq:Hid (∀W,af w2.drew W->W.cell? ⟨w.heap.size,0,none⟩=some (.int .i64 (at_:Int))/\W.cell? ⟨w.heap.size,1,none⟩=some (.int .i64 (m:Int))):=λW d=>(y.out W (ab (ak (Below.refl _ _)) d)).2;have dy:Hid (∀W,af w2.drew W->ai W w.heap.size [.int .i64 (at_:Int),.int .i64 (m:Int)]):=λW d=>b9.out.below d;have ef:Hid (w.heap.size<w2.drew.heap.size):=World.block_lt_of_cell? _ _ (bq.out w2.drew (Below.refl _ _)).1;clear bo b7 y b8 b9;generalize w2.drew=u at*;obtain⟨x,ca⟩:∃x,Hid (x=(nk m).toArray):=⟨_,rfl⟩;rw[<-ca.out];obtain⟨q,U⟩:∃q,Hid (q=p.extract at_ p.size):=⟨_,rfl⟩;rw[<-U.out];go_wp2;go_loopw [5,31] (λa1 J wr=>∃k:Nat,k<=32/\J= .int .i64 k/\Hid (gS u wr a1 (bF C p at_ m k))) (λ_ J _=>32-(intOf J).toNat)
 case atStart=>exact⟨0,Nat.zero_le _,rfl,gS.start _ _ (Below.refl _ _)⟩
 case round=>
  obtain⟨k,d4,rfl,a⟩:=hrel;by_cases A:k<32
  ·have D:Hid (x.extract (k* 3) (k* 3+3)=(ux m k).toArray):=by show _=_;rw[ca.out];exact B5 m k A
   have o:Hid (bF C p at_ m (k+1)=bF C p at_ m k++bC C p at_ m k):=rfl
   have i:Hid (bC C p at_ m k=if cf m k=1 then(if preB p at_ (cW m k)=true then[⟨k,-1,0,false,aj m,at_+(cW m k).size,m⟩]else[])
    else if cf m k=2 then[⟨k,-1,0,false,aj m,at_,modeF m k⟩]
    else if cf m k=3 then optSK p at_ m k (modeF m k) 32
    else if cf m k=4 then[cR C k at_ m (p.size-at_)]
    else[]):=rfl
   have a2:=Lib.hid (qb C p at_ m k);have c7:=ky m a8 k A;have bs:=pJ m k;obtain⟨a3,b3⟩:=bq.out wr a.out.B;have b4:w.heap.size<wr.heap.size:=World.block_lt_of_cell? _ _ a3;obtain⟨g,M⟩:∃g,g=cf m k:=⟨_,rfl⟩;obtain⟨md,a5⟩:∃md,md=modeF m k:=⟨_,rfl⟩;obtain⟨b,a6⟩:∃b,b=cW m k:=⟨_,rfl⟩;rw[<-M,<-a5,<-a6]at i;unfold ux at D;rw[<-M,<-a5,<-a6]at D;rw[<-a5]at bs;rw[<-a6]at c7;clear M a5 a6;by_cases K:g=1
   ·subst K;cases n:preB p at_ b with
    |true=>
     obtain⟨no,s⟩:∃no:an,no=⟨k,-1,0,false,aj m,at_+b.size,m⟩:=⟨_,rfl⟩;have V:=Lib.hid s;have l:Hid (bF C p at_ m (k+1)=bF C p at_ m k++[no]):=by show _=_;rw[o.out,i.out,if_pos rfl,n,if_pos rfl,s]
     have N:Hid (Lib.hasPrefix q.data.toList b.data.toList=true):=by show _=_;rw[U.out];exact n
     have c3:IntKind.i64.wrap ((at_:Int)+(b.size:Int))=((at_+b.size:Nat):Int):=by rw[aJ _ oO oO];omega
     clear n o i z s
     go_wp2_with(first
      |(go_at_call 215;refine(Tryz.strings_HasPrefix _ _ _).mono ?_;rintro e w' ⟨rfl,f⟩;rw[f,N.out];clear f)
      |(with_reducible show wpList _ _ _ (⟨_,Op.index 169 _ _,_,_,_,_⟩::_) _ _;refine dC rfl 169 _ _ rfl 32 168 Tryz.underlying169 _ Tryz.underlying168 rfl 3 dN x .i64 k k rfl rfl rfl A _ D.out ?_)
      |(with_reducible show wpList _ _ _ (⟨_,Op.alloc 168,_,_,_,_⟩::_) _ _;refine aU rfl 168 rfl _ iA ?_)
      |(with_reducible show wpList _ _ _ (⟨_,Op.alloc 179,_,_,_,_⟩::_) _ _;refine aU rfl 179 rfl _ jl ?_)
      |(with_reducible show wpList _ _ _ (⟨_,Op.store 168 _ _,_,_,_,_⟩::_) _ _;refine bg rfl 168 _ _ rfl 168 _ _ rfl rfl dN rfl (ft _ _ _) ?_)
      |(with_reducible show wpList _ _ _ (⟨_,Op.store 179 _ _,_,_,_,_⟩::_) _ _;refine bg rfl 179 _ _ rfl 179 _ [_,_] rfl rfl dq rfl (fl _ _) ?_)
      |(with_reducible show wpList _ _ _ (⟨_,Op.load 179 _,_,_,_,_⟩::_) _ _;refine aK rfl 179 _ rfl _ Tryz.underlying179 rfl _ [_,_] dq rfl (bS (ai.new _ #[_,_] _ _ oS)) ?_)
      |(at_builtin;refine jF a.out (ae (ae (ar _ _) _) _) rfl _ _ rfl rfl _ _ no (by rfl) (by rw[V.out];exact mN _ ⟨k,-1,0,false,aj m,at_+b.size,m⟩ _ _ oS) (by have:=a2.out;omega) ?_;intro a4 E L))
     exact⟨⟨k+1,by omega,by go_num,by rw[l.out];exact L.out⟩,by simp[intOf];omega⟩
    |false=>
     have l:Hid (bF C p at_ m (k+1)=bF C p at_ m k):=by show _=_;rw[o.out,i.out,if_pos rfl,n,if_neg oS,List.append_nil]
     have N:Hid (Lib.hasPrefix q.data.toList b.data.toList=false):=by show _=_;rw[U.out];exact n
     clear n o i z
     go_wp2_with(first
      |(go_at_call 215;refine(Tryz.strings_HasPrefix _ _ _).mono ?_;rintro e w' ⟨rfl,f⟩;rw[f,N.out];clear f)
      |(with_reducible show wpList _ _ _ (⟨_,Op.index 169 _ _,_,_,_,_⟩::_) _ _;refine dC rfl 169 _ _ rfl 32 168 Tryz.underlying169 _ Tryz.underlying168 rfl 3 dN x .i64 k k rfl rfl rfl A _ D.out ?_)
      |(with_reducible show wpList _ _ _ (⟨_,Op.alloc 168,_,_,_,_⟩::_) _ _;refine aU rfl 168 rfl _ iA ?_)
      |(with_reducible show wpList _ _ _ (⟨_,Op.store 168 _ _,_,_,_,_⟩::_) _ _;refine bg rfl 168 _ _ rfl 168 _ _ rfl rfl dN rfl (ft _ _ _) ?_))
     exact⟨⟨k+1,by omega,by go_num,by rw[l.out];exact a.out.below (ar _ _)⟩,by simp[intOf];omega⟩
   have c4:((g:Int)==1)=false:=by rw[beq_eq_false_iff_ne];omega
   by_cases bd:g=2
   ·subst bd;obtain⟨no,s⟩:∃no:an,no=⟨k,-1,0,false,aj m,at_,md⟩:=⟨_,rfl⟩;have V:=Lib.hid s;have l:Hid (bF C p at_ m (k+1)=bF C p at_ m k++[no]):=by show _=_;rw[o.out,i.out,if_neg oO,if_pos rfl,s]
    clear o i z s
    go_wp2_with(first
     |(with_reducible show wpList _ _ _ (⟨_,Op.index 169 _ _,_,_,_,_⟩::_) _ _;refine dC rfl 169 _ _ rfl 32 168 Tryz.underlying169 _ Tryz.underlying168 rfl 3 dN x .i64 k k rfl rfl rfl A _ D.out ?_)
     |(with_reducible show wpList _ _ _ (⟨_,Op.alloc 168,_,_,_,_⟩::_) _ _;refine aU rfl 168 rfl _ iA ?_)
     |(with_reducible show wpList _ _ _ (⟨_,Op.store 168 _ _,_,_,_,_⟩::_) _ _;refine bg rfl 168 _ _ rfl 168 _ _ rfl rfl dN rfl (ft _ _ _) ?_)
     |(at_builtin;refine jF a.out (ae (ar _ _) _) rfl _ _ rfl rfl _ _ no (by rfl) (by rw[V.out];exact mN _ ⟨k,-1,0,false,aj m,at_,md⟩ _ _ oS) (by have:=a2.out;omega) ?_;intro a4 E L))
    exact⟨⟨k+1,by omega,by go_num,by rw[l.out];exact L.out⟩,by simp[intOf];omega⟩
   have d5:((g:Int)==2)=false:=by rw[beq_eq_false_iff_ne];omega
   by_cases be:g=3
   ·subst be;have l:Hid (bF C p at_ m (k+1)=bF C p at_ m k++optSK p at_ m k md 32):=by show _=_;rw[o.out,i.out,if_neg oO,if_neg oO,if_pos rfl]
    have cb:Hid (SW (wr.alloc (.cells #[.int .i64 3,.int .i64 (md:Int),.string b] 168)) t H cap hb p C):=(z.out.below a.out.B).below (ar _ _);have B:Hid (ai (wr.alloc (.cells #[.int .i64 3,.int .i64 (md:Int),.string b] 168)) wr.heap.size [.int .i64 3,.int .i64 (md:Int),.string b]):=ai.new _ #[.int .i64 3,.int .i64 (md:Int),.string b] _ _ rfl;have ce:Hid (gS u (wr.alloc (.cells #[.int .i64 3,.int .i64 (md:Int),.string b] 168)) u5 (bF C p at_ m k)):=a.out.below (ar _ _);have cg:Hid (∀q,u5.ownBlock=some q->q≠wr.heap.size):=λq hq=>by have:=(a.out.O.lt q hq).2;omega
    clear o i z a
    go_wp2_with(first
     |(with_reducible show wpList _ _ _ (⟨_,Op.index 169 _ _,_,_,_,_⟩::_) _ _;refine dC rfl 169 _ _ rfl 32 168 Tryz.underlying169 _ Tryz.underlying168 rfl 3 dN x .i64 k k rfl rfl rfl A _ D.out ?_)
     |(with_reducible show wpList _ _ _ (⟨_,Op.alloc 168,_,_,_,_⟩::_) _ _;refine aU rfl 168 rfl _ iA ?_)
     |(with_reducible show wpList _ _ _ (⟨_,Op.store 168 _ _,_,_,_,_⟩::_) _ _;refine bg rfl 168 _ _ rfl 168 _ _ rfl rfl dN rfl (ft _ _ _) ?_))
    generalize wr.alloc (.cells #[.int .i64 3,.int .i64 (md:Int),.string b] 168)=E at*;generalize wr.heap.size=r at*;have F:Hid (∀W,af E W->W.cell? ⟨r,1,none⟩=some (.int .i64 (md:Int))):=λW d=>(B.out.below d).2 1 oS;have ej:(md:Int)<5:=oO;refine yO (af E) [1,2,3,4,5,6,7,8] (ak (Below.refl _ _)) ?_;refine zO F.out ?_;refine zO F.out ?_;refine zO F.out ?_;refine zO F.out ?_;refine zO F.out ?_;refine zO F.out ?_;refine' zV rfl (λW d=>qZ (cb.out.below d) rfl _ md rfl oO bs) ?_
    repeat refine zO F.out ?_
    refine ag ?_;have cr:Hid (ai E.drew r [.int .i64 3,.int .i64 (md:Int),.string b]):=B.out.below (ak (Below.refl _ _));have cs:Hid (gS u E.drew u5 (bF C p at_ m k)):=ce.out.below (ak (Below.refl _ _));clear cb B ce F;generalize E.drew=c5 at*;obtain⟨P,ch⟩:∃P,Hid (P=(nk md).toArray):=⟨_,rfl⟩;rw[<-ch.out];go_wp2;go_loopw [5,81] (λa1 J wr=>∃j:Nat,j<=32/\J= .int .i64 j/\Hid (gS u wr a1 (bF C p at_ m k++optSK p at_ m k md j))/\Hid (ai wr r [.int .i64 3,.int .i64 (md:Int),.string b])/\Hid (∀q,a1.ownBlock=some q->q≠r)) (λ_ J _=>32-(intOf J).toNat)
    case atStart=>exact⟨0,Nat.zero_le _,rfl,by show gS _ _ _ _;rw[show optSK p at_ m k md 0=[]from rfl,List.append_nil];exact cs.out,cr.out,cg.out⟩
    case round=>
     clear cs cr cg a3 b3 b4;obtain⟨j,d6,rfl,a,Q,Z⟩:=hrel;by_cases ap:j<32
     ·have ac:Hid (P.extract (j* 3) (j* 3+3)=(ux md j).toArray):=by show _=_;rw[ch.out];exact B5 md j ap
      have T:Hid (optSK p at_ m k md (j+1)=optSK p at_ m k md j++eW p at_ m k md j):=rfl;have O:Hid (eW p at_ m k md j=if cf md j=1/\preB p at_ (cW md j)=true then[⟨k,(j:Int),0,false,aj m+aj md,at_+(cW md j).size,m⟩]else[]):=rfl;have c8:=Lib.hid (lT p at_ m k md j);have d0:=ky md bs j ap;obtain⟨a3,b3⟩:=bq.out wr a.out.B;have b4:w.heap.size<wr.heap.size:=World.block_lt_of_cell? _ _ a3;obtain⟨g,M⟩:∃g,g=cf md j:=⟨_,rfl⟩;obtain⟨S,ci⟩:∃S,S=modeF md j:=⟨_,rfl⟩;obtain⟨c,a7⟩:∃c,c=cW md j:=⟨_,rfl⟩;rw[<-M,<-a7]at O;unfold ux at ac;rw[<-M,<-ci,<-a7]at ac;rw[<-a7]at d0;clear M ci a7;by_cases K:g=1
      ·subst K;cases n:preB p at_ c with
       |true=>
        obtain⟨no,s⟩:∃no:an,no=⟨k,(j:Int),0,false,aj m+aj md,at_+c.size,m⟩:=⟨_,rfl⟩;have V:=Lib.hid s;have ad:Hid (optSK p at_ m k md (j+1)=optSK p at_ m k md j++[no]):=by show _=_;rw[T.out,O.out,if_pos ⟨rfl,n⟩,s]
        have N:Hid (Lib.hasPrefix q.data.toList c.data.toList=true):=by show _=_;rw[U.out];exact n
        have c3:IntKind.i64.wrap ((at_:Int)+(c.size:Int))=((at_+c.size:Nat):Int):=by rw[aJ _ oO oO];omega
        have eh:IntKind.i64.wrap ((aj m:Int)+(aj md:Int))=((aj m+aj md:Nat):Int):=by have:=fp m;have:=fp md;rw[aJ _ oO oO];omega
        have c9:Hid ((bF C p at_ m k++optSK p at_ m k md j).length<=2000):=by show _<=_;rw[List.length_append];have:=a2.out;have:=c8.out;omega
        clear n T O s
        go_wp2_with(first
         |(go_at_call 215;refine(Tryz.strings_HasPrefix _ _ _).mono ?_;rintro e w' ⟨rfl,f⟩;rw[f,N.out];clear f)
         |(with_reducible show wpList _ _ _ (⟨_,Op.index 169 _ _,_,_,_,_⟩::_) _ _;refine dC rfl 169 _ _ rfl 32 168 Tryz.underlying169 _ Tryz.underlying168 rfl 3 dN P .i64 j j rfl rfl rfl ap _ ac.out ?_)
         |(with_reducible show wpList _ _ _ (⟨_,Op.alloc 168,_,_,_,_⟩::_) _ _;refine aU rfl 168 rfl _ iA ?_)
         |(with_reducible show wpList _ _ _ (⟨_,Op.store 168 _ _,_,_,_,_⟩::_) _ _;refine bg rfl 168 _ _ rfl 168 _ _ rfl rfl dN rfl (ft _ _ _) ?_)
         |(with_reducible show wpList _ _ _ (⟨_,Op.alloc 179,_,_,_,_⟩::_) _ _;refine aU rfl 179 rfl _ jl ?_)
         |(with_reducible show wpList _ _ _ (⟨_,Op.store 179 _ _,_,_,_,_⟩::_) _ _;refine bg rfl 179 _ _ rfl 179 _ [_,_] rfl rfl dq rfl (fl _ _) ?_))
        have al:Hid (gS u ((wr.alloc (.cells #[.int .i64 1,.int .i64 (S:Int),.string c] 168)).alloc (.cells #[.int .i64 ((at_:Int)+(c.size:Int)),.int .i64 (m:Int)] 179)) u5 (bF C p at_ m k++optSK p at_ m k md j)):=a.out.below (ae (ar _ _) _);have B:Hid (ai ((wr.alloc (.cells #[.int .i64 1,.int .i64 (S:Int),.string c] 168)).alloc (.cells #[.int .i64 ((at_:Int)+(c.size:Int)),.int .i64 (m:Int)] 179)) r [.int .i64 3,.int .i64 (md:Int),.string b]):=(Q.out.alloc _).alloc _;have av:Hid (ai ((wr.alloc (.cells #[.int .i64 1,.int .i64 (S:Int),.string c] 168)).alloc (.cells #[.int .i64 ((at_:Int)+(c.size:Int)),.int .i64 (m:Int)] 179)) (wr.heap.size+1) [.int .i64 ((at_:Int)+(c.size:Int)),.int .i64 (m:Int)]):=ai.new _ #[.int .i64 ((at_:Int)+(c.size:Int)),.int .i64 (m:Int)] _ _ oS;have bx:Hid (∀q,u5.ownBlock=some q->q≠r/\q≠wr.heap.size+1):=λq hq=>⟨Z.out q hq,by have:=(a.out.O.lt q hq).2;omega⟩;clear a Q Z;generalize(wr.alloc (.cells #[.int .i64 1,.int .i64 (S:Int),.string c] 168)).alloc (.cells #[.int .i64 ((at_:Int)+(c.size:Int)),.int .i64 (m:Int)] 179)=X at*;generalize wr.heap.size+1=am at*;have G:Hid (∀W,(af u W/\ai W r [.int .i64 3,.int .i64 (md:Int),.string b]/\ai W am [.int .i64 ((at_:Int)+(c.size:Int)),.int .i64 (m:Int)])->W.cell? ⟨r,1,none⟩=some (.int .i64 (md:Int))):=λW d=>d.2.1.2 1 oS;refine yO (λW=>af u W/\ai W r [.int .i64 3,.int .i64 (md:Int),.string b]/\ai W am [.int .i64 ((at_:Int)+(c.size:Int)),.int .i64 (m:Int)]) [1,2,3,4,5,6,9,0,7,0,8,0,10,11,12,0,13] ⟨ak al.out.B,B.out.drew,av.out.drew⟩ ?_;refine zO G.out ?_;refine zO G.out ?_;refine zO G.out ?_;refine zO G.out ?_;refine zO G.out ?_;refine zO G.out ?_;refine' zV rfl (λW d=>ji 179 _ Tryz.underlying179 rfl rfl am [_,_] dq rfl d.2.2) ?_;refine zZ ?_;refine(jn md _).mono ?_;rintro e d7 ⟨rfl,f⟩;rw[f];clear f;refine⟨_,rfl,⟨ak al.out.B,B.out.drew,av.out.drew⟩,jO ?_⟩;refine zO G.out ?_;refine' zQ rfl (by go_simp;rfl) ⟨ak al.out.B,B.out.drew,av.out.drew⟩ ?_;have ck:Hid (gS u X.drew u5 (bF C p at_ m k++optSK p at_ m k md j)):=al.out.below (ak (Below.refl _ _));have b1:Hid (ai X.drew r [.int .i64 3,.int .i64 (md:Int),.string b]):=B.out.drew;have cv:Hid (ai X.drew am [.int .i64 ((at_:Int)+(c.size:Int)),.int .i64 (m:Int)]):=av.out.drew;clear al B av G;generalize X.drew=Y at*;refine' zQ (v:= .slice (some ⟨Y.heap.size,0,none⟩) 1 1) (w':=Y.alloc (.cells no.aC.toArray 181)) rfl (by rw[V.out];go_simp;rfl) ⟨ae ck.out.B _,b1.out.alloc _,cv.out.alloc _⟩ ?_;refine' uS ck.out (ar _ _) rfl _ _ rfl rfl _ _ no rfl (mN _ no _ _ rfl) (by have:=c9.out;omega) ?_;intro a4 b5 bt hg co;have L:=Lib.hid bt;have d1:Hid (∀q,a4.ownBlock=some q->q≠r):=by
         show∀q,_;intro q hq;rcases co with e|e
         ·exact(bx.out q (by rw[<-e];exact hq)).1
         ·rw[e]at hq;injection hq with hq;have:=b1.out.1;have e2:(Y.alloc (.cells no.aC.toArray 181)).heap.size=Y.heap.size+1:=by simp
          omega
        have bv:ai b5 r [.int .i64 3,.int .i64 (md:Int),.string b]:=(b1.out.alloc _).grown hg (λq hq=>(bx.out q hq).1);have cp:ai b5 am [.int .i64 ((at_:Int)+(c.size:Int)),.int .i64 (m:Int)]:=(cv.out.alloc _).grown hg (λq hq=>(bx.out q hq).2);refine⟨⟨bt.B,bv,cp⟩,?_⟩;have dl:=Lib.hid bv;clear bt hg co bv cp
        repeat refine zU ?_
        refine ag ?_;go_wp2;exact⟨⟨j+1,by omega,by go_num,by rw[ad.out,<-List.append_assoc];exact L.out,dl.out,d1.out⟩,by simp[intOf];omega⟩
       |false=>
        have ad:Hid (optSK p at_ m k md (j+1)=optSK p at_ m k md j):=by show _=_;rw[T.out,O.out,n,if_neg oS,List.append_nil]
        have N:Hid (Lib.hasPrefix q.data.toList c.data.toList=false):=by show _=_;rw[U.out];exact n
        clear n T O
        go_wp2_with(first
         |(go_at_call 215;refine(Tryz.strings_HasPrefix _ _ _).mono ?_;rintro e w' ⟨rfl,f⟩;rw[f,N.out];clear f)
         |(with_reducible show wpList _ _ _ (⟨_,Op.index 169 _ _,_,_,_,_⟩::_) _ _;refine dC rfl 169 _ _ rfl 32 168 Tryz.underlying169 _ Tryz.underlying168 rfl 3 dN P .i64 j j rfl rfl rfl ap _ ac.out ?_)
         |(with_reducible show wpList _ _ _ (⟨_,Op.alloc 168,_,_,_,_⟩::_) _ _;refine aU rfl 168 rfl _ iA ?_)
         |(with_reducible show wpList _ _ _ (⟨_,Op.store 168 _ _,_,_,_,_⟩::_) _ _;refine bg rfl 168 _ _ rfl 168 _ _ rfl rfl dN rfl (ft _ _ _) ?_))
        exact⟨⟨j+1,by omega,by go_num,by rw[ad.out];exact a.out.below (ar _ _),Q.out.alloc _,Z.out⟩,by simp[intOf];omega⟩
      have c4:((g:Int)==1)=false:=by rw[beq_eq_false_iff_ne];omega
      have ad:Hid (optSK p at_ m k md (j+1)=optSK p at_ m k md j):=by show _=_;rw[T.out,O.out,if_neg (λh=>K h.1),List.append_nil]
      clear K T O
      go_wp2_with(first
       |(with_reducible show wpList _ _ _ (⟨_,Op.index 169 _ _,_,_,_,_⟩::_) _ _;refine dC rfl 169 _ _ rfl 32 168 Tryz.underlying169 _ Tryz.underlying168 rfl 3 dN P .i64 j j rfl rfl rfl ap _ ac.out ?_)
       |(with_reducible show wpList _ _ _ (⟨_,Op.alloc 168,_,_,_,_⟩::_) _ _;refine aU rfl 168 rfl _ iA ?_)
       |(with_reducible show wpList _ _ _ (⟨_,Op.store 168 _ _,_,_,_,_⟩::_) _ _;refine bg rfl 168 _ _ rfl 168 _ _ rfl rfl dN rfl (ft _ _ _) ?_))
      exact⟨⟨j+1,by omega,by go_num,by rw[ad.out];exact a.out.below (ar _ _),Q.out.alloc _,Z.out⟩,by simp[intOf];omega⟩
     ·have dm:j=32:=oO;have d2:Hid (gS u wr u5 (bF C p at_ m k++optSK p at_ m k md 32)):=by rw[<-dm];exact a.out
      have bb:=(Q.out.2 0 oS);simp only[List.getD,List.getElem?_cons_zero,Option.getD_some]at bb;clear a Q Z;go_wp2;exact⟨⟨k+1,by omega,by go_num,by rw[l.out];exact d2.out⟩,by simp[intOf];omega⟩
   have d8:((g:Int)==3)=false:=by rw[beq_eq_false_iff_ne];omega
   by_cases bf:g=4
   ·subst bf;have l:Hid (bF C p at_ m (k+1)=bF C p at_ m k++[cR C k at_ m (p.size-at_)]):=by show _=_;rw[o.out,i.out,if_neg oO,if_neg oO,if_neg oO,if_pos rfl]
    have dn:Hid (∀W,af wr W->SW W t H cap hb p C):=λW d=>z.out.below (ab a.out.B d);clear o i z
    go_wp2_with(first
     |(with_reducible show wpList _ _ _ (⟨_,Op.index 169 _ _,_,_,_,_⟩::_) _ _;refine dC rfl 169 _ _ rfl 32 168 Tryz.underlying169 _ Tryz.underlying168 rfl 3 dN x .i64 k k rfl rfl rfl A _ D.out ?_)
     |(with_reducible show wpList _ _ _ (⟨_,Op.alloc 168,_,_,_,_⟩::_) _ _;refine aU rfl 168 rfl _ iA ?_)
     |(with_reducible show wpList _ _ _ (⟨_,Op.store 168 _ _,_,_,_,_⟩::_) _ _;refine bg rfl 168 _ _ rfl 168 _ _ rfl rfl dN rfl (ft _ _ _) ?_)
     |(with_reducible show wpList _ _ _ (⟨_,Op.load 179 _,_,_,_,_⟩::_) _ _;refine aK rfl 179 _ rfl _ Tryz.underlying179 rfl ⟨w.heap.size,0,none⟩ [.int .i64 (at_:Int),.int .i64 (m:Int)] dq rfl (bS ((dy.out wr a.out.B).alloc _)) ?_)
     |(go_at_call 216;refine(tF k at_ m _ t H cap hb p C (dn.out _ (ar _ _)) cx a8 A).mono ?_;rintro e c5 ⟨rfl,cq⟩;have ds:=Lib.hid ((ar _ _).trans (cq.mono oS));clear cq;generalize cR C k at_ m (p.size-at_)=no at*;rw[no.KM])
     |(at_builtin;refine jF a.out (ae ds.out _) rfl _ _ rfl rfl _ _ no (by rfl) (mN _ no _ _ oS) (by have:=a2.out;omega) ?_;intro a4 E L))
    exact⟨⟨k+1,by omega,by go_num,by rw[l.out];exact L.out⟩,by simp[intOf];omega⟩
   have d9:((g:Int)==4)=false:=by rw[beq_eq_false_iff_ne];omega
   have l:Hid (bF C p at_ m (k+1)=bF C p at_ m k):=by show _=_;rw[o.out,i.out,if_neg K,if_neg bd,if_neg be,if_neg bf,List.append_nil]
   clear K bd be bf o i z
   go_wp2_with(first
    |(with_reducible show wpList _ _ _ (⟨_,Op.index 169 _ _,_,_,_,_⟩::_) _ _;refine dC rfl 169 _ _ rfl 32 168 Tryz.underlying169 _ Tryz.underlying168 rfl 3 dN x .i64 k k rfl rfl rfl A _ D.out ?_)
    |(with_reducible show wpList _ _ _ (⟨_,Op.alloc 168,_,_,_,_⟩::_) _ _;refine aU rfl 168 rfl _ iA ?_)
    |(with_reducible show wpList _ _ _ (⟨_,Op.store 168 _ _,_,_,_,_⟩::_) _ _;refine bg rfl 168 _ _ rfl 168 _ _ rfl rfl dN rfl (ft _ _ _) ?_))
   exact⟨⟨k+1,by omega,by go_num,by rw[l.out];exact a.out.below (ar _ _)⟩,by simp[intOf];omega⟩
  ·have dx:k=32:=oO;have l:Hid (gS w wr u5 (bF C p at_ m 32)):=by rw[<-dx];exact a.out.lift c6.out
   clear a z;go_wp2;go_ret;exact⟨_,rfl,l.out⟩
end
section
open Go.RowKit Go.WideMaps Go.Maps
def FZ (W:World) (b n:Nat):Prop:=b<W.heap.size/\∀i,i<n->W.frozen? ⟨b,i,none⟩=false
theorem FZ.below {W a:World} {b n:Nat} (h:FZ W b n) (hb:Below W.heap.size W a):FZ a b n:=⟨Nat.lt_of_lt_of_le h.1 hb.size,λi c=>(hb.frozen h.1).trans (h.2 i c)⟩
theorem FZ.set {W:World} {b n:Nat} (h:FZ W b n) (a:Addr) (u:Value):FZ (W.setCell a u) b n:=⟨by simpa using h.1,λi c=>by rw[World.frozen?_setCell];exact h.2 i c⟩
theorem FZ.grown {W a:World} {b n:Nat} {row:Option Nat} (h:FZ W b n) (hg:W.grownBy a row) (d:some b≠row):FZ a b n:=⟨Nat.lt_of_lt_of_le h.1 hg.size,λi c=>(hg.frozen_far ⟨b,i,none⟩ h.1 d).trans (h.2 i c)⟩
theorem FZ.new (W:World) (xs:Array Value) (a:TypeId) (b n:Nat) (hb:b=W.heap.size):FZ (W.alloc (.cells xs a)) b n:=⟨by simp;omega,λi _=>World.frozen?_alloc_at _ _ _ _ hb⟩
theorem ai.set {W:World} {b:Nat} {a:List Value} (h:ai W b a) (i:Nat) (u:Value) (d:i<a.length):ai (W.setCell ⟨b,i,none⟩ u) b (a.set i u):=by
 refine⟨by simpa using h.1,λj c=>?_⟩;rw[List.length_set]at c;by_cases e:j=i
 ·subst e;rw[World.cell?_setCell_same W _ _ (h.2 j c)];simp[List.getD,d]
 ·rw[World.cell?_setCell_other W _ _ _ (λf=>e (by injection f with _ g;exact g.symm)),h.2 j c];simp[List.getD,Ne.symm e]
def jh (C:Nat->Nat->Nat) (a m x:Nat):Nat->Nat->Nat:=λa' b=>if a'=a/\b=m then x else C a' b
theorem il (C:Nat->Nat->Nat) (a m x:Nat):jh C a m x a m=x:=if_pos ⟨rfl,rfl⟩
theorem fZ (C:Nat->Nat->Nat) (a m x a' b:Nat) (h:¬(a'=a/\b=m)):jh C a m x a' b=C a' b:=if_neg h
def jc (C:Nat->Nat->Nat) (a:Nat):Nat:=C a 0+C a 1+C a 2+C a 3+C a 4
theorem za {C:Nat->Nat->Nat} {a m x:Nat} (c:m<5) (d:x<C a m):jc (jh C a m x) a<jc C a:=by
 have b:m=0\/m=1\/m=2\/m=3\/m=4:=oO;unfold jc;rcases b with rfl|rfl|rfl|rfl|rfl<;>simp only[jh]<;>simp<;>omega
def qG (C:Nat->Nat->Nat) (L:Nat->List an) (a:Nat):Prop:=∀m,m<5->C a m=1073741824\/∃b∈L m,b.aG C<=C a m
theorem pN {C C':Nat->Nat->Nat} (h:∀a m,C' a m<=C a m) (b:an):b.aG C'<=b.aG C:=Nat.add_le_add_left (h _ _) _
theorem Cs {C:Nat->Nat->Nat} {a m x:Nat} (c:x<=C a m):∀a' b,jh C a m x a' b<=C a' b:=by
 intro a' b;by_cases h:a'=a/\b=m
 ·obtain⟨rfl,rfl⟩:=h;rw[il];exact c
 ·rw[fZ _ _ _ _ _ _ h];exact Nat.le_refl _
theorem qG.Ki {C:Nat->Nat->Nat} {L:Nat->List an} {a m:Nat} (h:qG C L a) {b:an} (i:b∈L m) (k:b.aG C<C a m):qG (jh C a m (b.aG C)) L a:=by
 intro d l;have g:=Cs (C:=C) (a:=a) (m:=m) (x:=b.aG C) (Nat.le_of_lt k);by_cases e:d=m
 ·subst e;right;exact⟨b,i,by rw[il];exact pN g b⟩
 ·rw[fZ _ _ _ _ _ _ (λh=>e h.2)];rcases h d l with c|⟨f,c,j⟩
  ·exact .inl c
  ·exact .inr ⟨f,c,Nat.le_trans (pN g f) j⟩
theorem tP {C C':Nat->Nat->Nat} {num at_ m:Nat} {best:an} {n sz:Nat} {lg:Bool} (h:∀a m,at_<a->C a m=C' a m) (hn:0<n) (hb:best.run=0\/at_<best.at_):cH C num at_ m best n sz lg=cH C' num at_ m best n sz lg:=by
 have e1:an.aG C ⟨num,-1,n,lg,sz+8* n,at_+n,m⟩=an.aG C' ⟨num,-1,n,lg,sz+8* n,at_+n,m⟩:=by
  unfold an.aG;rw[h _ _ (by show at_<at_+n;omega)]
 unfold cH;rcases hb with hb|hb
 ·rw[if_pos (.inl hb),if_pos (.inl hb)]
 ·have e2:best.aG C=best.aG C':=by unfold an.aG;rw[h _ _ hb]
  rw[e1,e2]
theorem p6 {C:Nat->Nat->Nat} {num at_ m:Nat} {best:an} {n sz:Nat} {lg:Bool} (hn:0<n) (hb:best.run=0\/at_<best.at_):at_<(cH C num at_ m best n sz lg).at_:=by
 unfold cH;split
 ·show at_<at_+n;omega
 ·rename_i h
  rcases hb with hb|hb
  ·exact absurd (.inl hb) h
  ·exact hb
theorem lS {C:Nat->Nat->Nat} {num at_ m:Nat}:∀k,(cJ C num at_ m k).run=0\/at_<(cJ C num at_ m k).at_
 |0=> .inl rfl
 |k+1=> .inr (p6 oO (lS k))
theorem sx {C C':Nat->Nat->Nat} {num at_ m:Nat} (h:∀a m,at_<a->C a m=C' a m):∀k,cJ C num at_ m k=cJ C' num at_ m k
 |0=>rfl
 |k+1=>by
  show cH C _ _ _ _ _ _ _=cH C' _ _ _ _ _ _ _;rw[tP h oO (lS k),sx h k]
theorem mw {C:Nat->Nat->Nat} {num at_ m K:Nat}:∀k,(bO C num at_ m K k).run=0\/at_<(bO C num at_ m K k).at_
 |0=>lS K
 |k+1=> .inr (p6 oO (mw k))
theorem rh {C C':Nat->Nat->Nat} {num at_ m K:Nat} (h:∀a m,at_<a->C a m=C' a m):∀k,bO C num at_ m K k=bO C' num at_ m K k
 |0=>sx h K
 |k+1=>by
  show cH C _ _ _ _ _ _ _=cH C' _ _ _ _ _ _ _;rw[tP h oO (mw k),rh h k]
theorem DC {C C':Nat->Nat->Nat} {p:ByteArray} {at_ m n:Nat} (h:∀a m,at_<a->C a m=C' a m):bC C p at_ m n=bC C' p at_ m n:=by
 unfold bC cR;rw[rh h]
theorem mH {C C':Nat->Nat->Nat} {p:ByteArray} {at_ m:Nat} (h:∀a m,at_<a->C a m=C' a m):∀k,bF C p at_ m k=bF C' p at_ m k
 |0=>rfl
 |k+1=>by
  unfold bF;rw[mH h k,DC h]
theorem F9 {C:Nat->Nat->Nat} {num at_ m K:Nat}:∀k,at_<=(bO C num at_ m K k).at_:=by
 have a:∀k,at_<=(cJ C num at_ m k).at_:=λk=>by
  cases k with
  |zero=>exact Nat.le_refl _
  |succ k=>exact Nat.le_of_lt (p6 oO (lS k))
 intro k;cases k with
 |zero=>exact a K
 |succ k=>exact Nat.le_of_lt (p6 oO (mw k))
theorem Jk {C:Nat->Nat->Nat} {p:ByteArray} {at_ m n:Nat} {b:an} (a:b∈bC C p at_ m n):at_<=b.at_:=by
 unfold bC at a;split at a
 ·split at a
  ·rw[List.mem_singleton]at a;subst a;exact Nat.le_add_right _ _
  ·cases a
 split at a
 ·rw[List.mem_singleton]at a;subst a;exact Nat.le_refl _
 split at a
 ·have key:∀k,b∈optSK p at_ m n (modeF m n) k->at_<=b.at_:=by
   intro k
   induction k with
   |zero=>intro h;cases h
   |succ k c=>
    intro h;unfold optSK at h;rw[List.mem_append]at h;rcases h with h|h
    ·exact c h
    ·unfold eW at h;split at h
     ·rw[List.mem_singleton]at h;subst h;exact Nat.le_add_right _ _
     ·cases h
  exact key 32 a
 split at a
 ·rw[List.mem_singleton]at a;subst a;exact F9 _
 ·cases a
theorem vu {C:Nat->Nat->Nat} {p:ByteArray} {at_ m:Nat} {a:an}:∀k,a∈bF C p at_ m k->at_<=a.at_:=by
 intro k
 induction k with
 |zero=>intro h;cases h
 |succ k b=>
  intro h;unfold bF at h;rw[List.mem_append]at h;rcases h with h|h
  ·exact b h
  ·exact Jk h
theorem rX {p a:ByteArray} {at_:Nat} (h:preB p at_ a=true) (b:at_<=p.size):at_+a.size<=p.size:=by
 unfold preB Lib.hasPrefix at h;rw[List.isPrefixOf_iff_prefix]at h;have c:=h.length_le;have e1:a.data.toList.length=a.size:=by simp
 have e2:(p.extract at_ p.size).data.toList.length=p.size-at_:=by
  show(p.extract at_ p.size).data.toList.length=_;rw[Array.length_toList];show(p.extract at_ p.size).size=_;rw[ByteArray.size_extract];omega
 omega
theorem Jg {C:Nat->Nat->Nat} {p:ByteArray} {at_ m n:Nat} (g:at_<p.size) (e:p.size<=4096) (c:m<5) {b:an} (a:b∈bC C p at_ m n):okO p b:=by
 have w1:=fp m;unfold bC at a;split at a
 ·split at a
  ·rename_i i d
   rw[List.mem_singleton]at a;subst a;exact⟨rX d oO,c,by show aj m<=_;omega,by show 0<=_;omega⟩
  ·cases a
 split at a
 ·rw[List.mem_singleton]at a;subst a;exact⟨by show at_<=_;omega,pJ _ _,by show aj m<=_;omega,by show 0<=_;omega⟩
 split at a
 ·have key:∀k,b∈optSK p at_ m n (modeF m n) k->okO p b:=by
   intro k
   induction k with
   |zero=>intro h;cases h
   |succ k f=>
    intro h;unfold optSK at h;rw[List.mem_append]at h;rcases h with h|h
    ·exact f h
    ·unfold eW at h;split at h
     ·rename_i d
      rw[List.mem_singleton]at h;subst h;have w2:=fp (modeF m n);exact⟨rX d.2 oO,c,by show aj m+aj (modeF m n)<=_;omega,by show 0<=_;omega⟩
     ·cases h
  exact key 32 a
 split at a
 ·rw[List.mem_singleton]at a;subst a;unfold cR;exact qV _ oO c e oO _ oO
 ·cases a
theorem pg {C:Nat->Nat->Nat} {p:ByteArray} {at_ m:Nat} (b:at_<p.size) (c:p.size<=4096) (d:m<5) {a:an}:∀k,a∈bF C p at_ m k->okO p a:=by
 intro k
 induction k with
 |zero=>intro h;cases h
 |succ k e=>
  intro h;unfold bF at h;rw[List.mem_append]at h;rcases h with h|h
  ·exact e h
  ·exact Jg b c d h
theorem qo:∀(l:List an) (j k:Nat) (a:an),l[j]?=some a->k<7->(l.flatMap an.aC)[j* 7+k]?=a.aC[k]?
 |[],j,k,a,h,b=>by simp at h
 |x::l,0,k,a,h,b=>by
  simp only[List.getElem?_cons_zero,Option.some.injEq]at h;subst h;rw[List.flatMap_cons,List.getElem?_append_left (by show 0* 7+k<7;omega)];simp
 |x::l,j+1,k,a,h,b=>by
  rw[List.flatMap_cons,List.getElem?_append_right (by show 7<=_;omega)];rw[<-qo l j k a (by simpa using h) b];congr 1;show(j+1)* 7+k-7=_;omega
structure SQ (w:World) (b a cap hb:Nat) (p:ByteArray) (C:Nat->Nat->Nat):Prop where
 S:SW w b a cap hb p C
 F:FZ w a (5* (p.size+1))
 n1:b≠a
 n2:hb≠b
 n3:hb≠a
theorem SQ.below {w W:World} {a b cap hb:Nat} {p:ByteArray} {C:Nat->Nat->Nat} (h:SQ w a b cap hb p C) (c:Below w.heap.size w W):SQ W a b cap hb p C:=⟨h.S.below c,h.F.below c,h.n1,h.n2,h.n3⟩
theorem SQ.set {w:World} {c d cap hb:Nat} {p:ByteArray} {C:Nat->Nat->Nat} (h:SQ w c d cap hb p C) (a m x:Nat) (n:a<=p.size) (o:m<5) (j:x<=1073741824):
 SQ (w.setCell ⟨d,a* 5+m,none⟩ (.int .i64 (x:Int))) c d cap hb p (jh C a m x):=by
 have hs:=h.S;have CG:∀i,(w.setCell ⟨d,a* 5+m,none⟩ (.int .i64 (x:Int))).cell? ⟨c,i,none⟩=w.cell? ⟨c,i,none⟩:=λi=>World.cell?_setCell_other w _ _ _ (λe=>h.n1 (by injection e with e1;exact e1.symm));refine⟨⟨by simpa using hs.lt,by rw[CG];exact hs.c0,λi v k=>by rw[CG];exact hs.ct i v k,by rw[CG];exact hs.cc,by rw[CG];exact hs.cm,by simpa using hs.cl,λa' b f g=>?_,hs.hc,hs.hp,λa' b=>?_⟩,h.F.set _ _,h.n1,h.n2,h.n3⟩
 ·by_cases e:a'=a/\b=m
  ·obtain⟨rfl,rfl⟩:=e;rw[World.cell?_setCell_same w _ _ (hs.cz a' b f g),il]
  ·rw[World.cell?_setCell_other w _ _ _ (λl=>e (by injection l with _ q;omega)),hs.cz a' b f g,fZ _ _ _ _ _ _ e]
 ·by_cases e:a'=a/\b=m
  ·obtain⟨rfl,rfl⟩:=e;rw[il];exact j
  ·rw[fZ _ _ _ _ _ _ e];exact hs.b a' b
theorem SQ.grown {w W:World} {b c cap hb:Nat} {p:ByteArray} {C:Nat->Nat->Nat} (h:SQ w b c cap hb p C) {g:Nat} (hg:w.grownBy W (some g)) (j:g≠b) (f:g≠c):SQ W b c cap hb p C:=by
 have hs:=h.S;have d:∀i,W.cell? ⟨b,i,none⟩=w.cell? ⟨b,i,none⟩:=λi=>hg.cell_far ⟨b,i,none⟩ hs.lt (λe=>j (by injection e with e;exact e.symm));have k:∀i,W.cell? ⟨c,i,none⟩=w.cell? ⟨c,i,none⟩:=λi=>hg.cell_far ⟨c,i,none⟩ hs.cl (λe=>f (by injection e with e;exact e.symm));exact⟨⟨Nat.lt_of_lt_of_le hs.lt hg.size,by rw[d];exact hs.c0,λi v l=>by rw[d];exact hs.ct i v l,by rw[d];exact hs.cc,by rw[d];exact hs.cm,Nat.lt_of_lt_of_le hs.cl hg.size,λa m n o=>by rw[k];exact hs.cz a m n o,hs.hc,hs.hp,hs.b⟩,h.F.grown hg (λe=>f (by injection e with e;exact e.symm)),h.n1,h.n2,h.n3⟩
theorem Kk:laidOutB Tryz.prog=true:=oK
theorem La:(179:TypeId)<Tryz.prog.types.size:=of_decide_eq_true oK
theorem K0:(match Tryz.prog.underlying 179 with|some (.array _ _)|some (.struct _)=>true|_=>false)=true:=oK
theorem xR:Keyed Tryz.prog 179:=Keyed.of_law (deep_law_laid Kk (m:=3) oO La oK K0)
theorem FC:Tryz.prog.keyType 179=true:=oK
theorem B7:Tryz.prog.cellsOf 179=2:=oK
theorem Gt:Tryz.prog.cellsOf 3=1:=oK
theorem Ke:Tryz.prog.types.size+1=(Tryz.prog.types.size-2)+3:=by
 have h:2<=Tryz.prog.types.size:=of_decide_eq_true oK;omega
theorem FM (n:Nat) (a:Int) (h:(Lit.int .i64 a).wf=true):Tryz.prog.keyLits (n+1) 3 [.int .i64 a]=some [.int .i64 a]:=by
 simp[Program.keyLits,Tryz.underlying3,h]
def I3 (a m:Nat):Lit:= .string (keyBytes [.int .i64 (a:Int),.int .i64 (m:Int)])
theorem uu (a m:Nat) (f:a<=9223372036854775807) (g:m<=9223372036854775807):keyOf Tryz.prog 179 (.agg #[.int .i64 (a:Int),.int .i64 (m:Int)])=some (I3 a m):=by
 have c:(Lit.int .i64 (a:Int)).wf=true:=WalkArith.wf_i64 oO;have d:(Lit.int .i64 (m:Int)).wf=true:=WalkArith.wf_i64 oO;unfold keyOf;have b:=Tryz.underlying179;have e:(Value.agg #[.int .i64 (a:Int),.int .i64 (m:Int)]).formed Tryz.prog 179=true:=by simp[Value.formed,b,B7]
 rw[b];simp only[FC,e,Bool.and_self,if_true];rw[Ke];generalize Tryz.prog.types.size-2=n;have hl:Tryz.prog.keyLits (n+3) 179 [.int .i64 (a:Int),.int .i64 (m:Int)]=some [.int .i64 (a:Int),.int .i64 (m:Int)]:=by
  unfold Program.keyLits;rw[b];dsimp only;rw[if_pos (by rw[B7];exact⟨rfl,by kernel_rfl⟩)];simp only[List.mapM_cons,List.mapM_nil,Gt,List.drop_zero,List.drop_succ_cons,List.take_succ_cons,List.take_zero,FM _ _ c,FM _ _ d];rfl
 rw[show(Value.agg #[.int .i64 (a:Int),.int .i64 (m:Int)]).cells.toList=[.int .i64 (a:Int),.int .i64 (m:Int)]from rfl,hl];rfl
theorem JT {a m a' b:Nat} (f:a<=9223372036854775807) (g:m<=9223372036854775807) (c:a'<=9223372036854775807) (d:b<=9223372036854775807) (h:I3 a m=I3 a' b):a=a'/\m=b:=by
 have e:=uu a m f g;have i:=uu a' b c d;rw[h]at e;have c:=xR.inj e i;have d:(a:Int)=a'/\(m:Int)=b:=by simpa using c
 omega
def Hv (v:Value):Option (DataW Value×List MemPlace):=some (.held v,[])
abbrev Ei:Value:=(an.val ⟨0,0,0,false,0,0,0⟩)
theorem JK (w:World):(zeroValue 181).run Tryz.prog w= .ok Ei w:=oK
def cU (w:World) (hb d:Nat) (c:Nat->Nat->Option an):Prop:=
 ∃D:DataW Value,Maps.IsMap D/\w.ownsMap Tryz.prog 179 Hv hb d D/\∀a m b,a<=4096->m<5->c a m=some b->D.atKey (I3 a m) (.held Ei)= .held b.val
theorem cU.below {w W:World} {hb c:Nat} {a:Nat->Nat->Option an} (h:cU w hb c a) (d:Below w.heap.size w W):cU W hb c a:=by
 obtain⟨D,e,f,g⟩:=h;refine⟨D,e,?_,g⟩;obtain⟨i,clock,b,F,hs,j⟩:=f;exact⟨i,clock,(d.block hb ((Array.getElem?_eq_some_iff.1 b).1)).trans b,F,hs,j⟩
theorem cU.set {w:World} {hb c:Nat} {b:Nat->Nat->Option an} (h:cU w hb c b) {a:Addr} (g:hb≠a.block) (u:Value):cU (w.setCell a u) hb c b:=by
 obtain⟨D,d,e,f⟩:=h;exact⟨D,d,e.setCell g u,f⟩
theorem cU.th {w:World} {hb g i:Nat} {c d:Nat->Nat->Option an} (h:cU w hb g c) (hc:g<=i) (j:∀a m b,a<=4096->m<5->d a m=some b->c a m=some b):cU w hb i d:=by
 obtain⟨D,k,l,n⟩:=h;exact⟨D,k,l.mono hc,λa m b e f o=>n a m b e f (j a m b e f o)⟩
theorem cU.lt {w:World} {hb c:Nat} {a:Nat->Nat->Option an} (h:cU w hb c a):hb<w.heap.size:=by
 obtain⟨D,d,b,e⟩:=h;exact b.lt
def tC (c:Nat->Nat->Option an) (a m:Nat) (d:an):Nat->Nat->Option an:=λa' b=>if a'=a/\b=m then some d else c a' b
theorem cU.put {w:World} {hb d:Nat} {f:Nat->Nat->Option an} (h:cU w hb d f) (a m:Nat) (c:an) (t:a<=4096) (u:m<5) (hc:d<maxLen):
 ∃w',(Instr.mapUpdate 173 (.map (some hb)) (.agg #[.int .i64 (a:Int),.int .i64 (m:Int)]) c.val).run Tryz.prog w= .ok () w'/\cU w' hb (d+1) (tC f a m c)/\w.grownBy w' (some hb):=by
 obtain⟨D,g,k,l⟩:=h;have i:=uu a m oO oO;obtain⟨w',s,n,o⟩:=k.update xR Tryz.underlying173 hc i (show Hv c.val=some (.held c.val,[])from rfl);refine⟨w',s,⟨_,g.put _ _,n,λa' j p q r b=>?_⟩,o⟩;by_cases e:a'=a/\j=m
 ·obtain⟨rfl,rfl⟩:=e;rw[Maps.atKey_put_same g (xR.key i)];unfold tC at b;rw[if_pos ⟨rfl,rfl⟩]at b;rw[Option.some.inj b]
 ·rw[Maps.atKey_put_other]
  ·refine l a' j p q r ?_;unfold tC at b;rwa[if_neg e]at b
  ·intro e2;exact e (JT oO oO oO oO e2)
theorem cU.lookup {w:World} {hb n:Nat} {c:Nat->Nat->Option an} (h:cU w hb n c) (a m:Nat) (b:an) (f:a<=4096) (g:m<5) (i:c a m=some b):
 (Instr.lookup 173 (.map (some hb)) (.agg #[.int .i64 (a:Int),.int .i64 (m:Int)]) false).run Tryz.prog w= .ok b.val w:=by
 obtain⟨D,p,j,k⟩:=h;have l:=uu a m oO oO;obtain⟨v,ps,o,d⟩:=j.lookup xR Tryz.underlying173 (JK w) (show Hv Ei=some (.held Ei,[])from rfl) l;rw[k a m b f g i]at d;have e:v=b.val:=by
  exact DataW.held.inj (Prod.mk.inj (Option.some.inj d)).1
 rw[o,e]
end
theorem zq (x y p:Nat) (a:p≠0):cmod (x^^^y) p=cmod x p^^^cmod y p:=by
 refine(iK _ _ _ ?_ ?_).symm
 ·have:=k8 (je x p) (je y p);rw[show x^^^cmod x p^^^(y^^^cmod y p)=(x^^^y)^^^(cmod x p^^^cmod y p)from by ac_rfl]at this;exact this
 ·have b:=jX x p a;have c:=jX y p a;have:=kh (cmod x p) (cmod y p) (bl p-1) oO oO;omega
theorem DS (x y p:Nat) (a:p≠0) (h:fy p (x^^^y)):cmod x p=cmod y p:=by
 refine iK _ _ _ ?_ (jX _ _ a);have:=k8 h (je x p);rw[show x^^^y^^^(x^^^cmod x p)=(x^^^x)^^^(y^^^cmod x p)from by ac_rfl]at this;simpa using this
theorem lC (x y p:Nat) (a:p≠0):cmod (bL (cmod x p) y) p=cmod (bL x y) p:=by
 refine(DS _ _ _ a ?_).symm;rw[<-pD];exact yy _ (je x p)
theorem ud (x y p:Nat) (a:p≠0):cmod (bL x (cmod y p)) p=cmod (bL x y) p:=by
 rw[lV,lC _ _ _ a,lV]
theorem sM (a p d:Nat) (b:bl p=d+1) (e:bl a<=d):cmod (2* a) p=if 2^d<=2* a then(2* a)^^^p else 2* a:=by
 have g:p≠0:=by intro h;subst h;rw[dv]at b;omega
 have f:bl (2* a)<=d+1:=by
  by_cases h:a=0
  ·subst h;rw[Nat.mul_zero,dv];omega
  ·rw[pT a h];omega
 split
 ·rename_i h
  have c:bl (2* a)=d+1:=by have:=(fT (2* a) d).2 h;omega
  refine(iK _ _ _ ?_ ?_).symm
  ·rw[<-Nat.xor_assoc];simp;exact F1 p
  ·have:=wB (2* a) p d c b;omega
 ·rename_i h
  exact ir _ _ (by have:=(aR (2* a) d).2 oO;omega)
def aM (s p a b:Nat):Nat:=if p=0 then a* b%s else cmod (bL a b) p
theorem Gi (A B p:Nat) (a:p≠0):cmod (bL A B) p=(if B%2=1 then cmod A p else 0)^^^cmod (bL (cmod (2* A) p) (B/2)) p:=by
 rw[dR,zq _ _ _ a,lC _ _ _ a,ny];congr 1;split
 ·rfl
 ·exact ir 0 p (by rw[dv];exact eZ p a)
section
open Go.RowKit
theorem F4 (x:Nat) (h:x<2^64):Lib.bitLen x=bl x:=by
 induction x using Nat.strongRecOn with
 |_ x b=>
  by_cases a:x=0
  ·subst a;rfl
  ·rw[Lib.bitLen_half x a h,b (x/2) oO oO];by_cases c:x=1
   ·subst c;rfl
   ·have d:x/2≠0:=oO;obtain⟨n,hn⟩:∃n,bl (x/2)=n+1:=⟨bl (x/2)-1,by have:=eZ _ d;omega⟩;have e:=(fT (x/2) n).1 oO;have f:=(aR (x/2) (n+1)).1 oO;rw[hn];rw[rG x (n+1) (by rw[Nat.pow_succ];omega) (by rw[Nat.pow_succ];omega)];omega
theorem J8 (x:Int) (w:World) (a:0<=x) (b:x<=9223372036854775807):
 Calls Tryz.prog 219 #[.int .u64 x] w λe w'=>e= .returned (.int .i64 (bl x.toNat))/\w=w':=by
 refine(Tryz.bits_Len x w a oO).mono ?_;rintro e w' ⟨rfl,rfl⟩;exact⟨by rw[F4 _ oO],rfl⟩
theorem Cw (x:Int) (a:0<=x) (b:x<=9223372036854775807):bl x.toNat<=63:=
 (aR _ _).2 oO
theorem dZ (p:Int) (w:World) (a:0<=p) (b:p<=9223372036854775807):
 Calls Tryz.prog 188 #[.int .i64 p] w λe w'=>e= .returned (.int .i64 ((bl p.toNat:Int)-1))/\w=w':=by
 have hb:=Cw p a b;go_enter Tryz.func188,Tryz.ntmps188;go_wp2_with(go_at_call 219;refine(J8 _ _ oO oO).mono ?_;rintro e w' ⟨rfl,rfl⟩)
 go_ret;exact⟨rfl,rfl⟩
end
section
open Go.RowKit Go.WideMaps Go.Maps
def jj (W:World) (cb at_ m:Nat):Nat:=match W.cell? ⟨cb,at_* 5+m,none⟩with|some (.int _ x)=>x.toNat|_=>0
def kn (W:World) (cb at_:Nat):Nat:=jj W cb at_ 0+jj W cb at_ 1+jj W cb at_ 2+jj W cb at_ 3+jj W cb at_ 4
theorem SW.sum {w:World} {sb cb cap hb:Nat} {p:ByteArray} {C:Nat->Nat->Nat} (h:SW w sb cb cap hb p C) (at_:Nat) (a:at_<=p.size):kn w cb at_=jc C at_:=by
 have k:∀m,m<5->jj w cb at_ m=C at_ m:=λm b=>by unfold jj;rw[h.cz at_ m a b];simp
 unfold kn jc;rw[k 0 oO,k 1 oO,k 2 oO,k 3 oO,k 4 oO]
def lO:Value->Nat
 |.bool true=>1
 |_=>0
theorem GI:(Tryz.prog.info? 219).map (·.zero)=some (some (.agg #[.slice none 0 0,.slice none 0 0,.slice none 0 0,.slice none 0 0,.slice none 0 0])):=oK
theorem ES:(Tryz.prog.info? 219).map (·.size)=some 5:=oK
theorem x9:(Tryz.prog.info? 218).map (·.size)=some 1:=oK
structure QS (w wr:World) (n ob base sb cb cap hb:Nat) (p:ByteArray) (C:Nat->Nat->Nat) (vs:List Value) (L:Nat->List an) (μ cnt:Nat) (T:Nat->Nat->Option an):Prop where
 B:Below n w wr
 S:SQ wr sb cb cap hb p C
 A:ai wr ob vs
 F:FZ wr ob 5
 V:∀i,i<μ->∃v,vs[i]?=some v/\wr.ownsRow base 181 7 v (L i).length ((L i).flatMap an.aC)
 M:cU wr hb cnt T
 l5:vs.length=5
 n1:n<=sb/\n<=cb/\n<=hb
 n2:sb<ob/\cb<ob/\hb<ob
 n3:ob<base
 n4:base<=wr.heap.size
section
variable {w wr W : World} {n ob base sb cb cap hb : Nat} {p : ByteArray} {C : Nat → Nat → Nat} {vs : List Value} {L : Nat → List an} {μ cnt : Nat} {T : Nat → Nat → Option an}
theorem QS.below (h:QS w wr n ob base sb cb cap hb p C vs L μ cnt T) (a:Below wr.heap.size wr W):QS w W n ob base sb cb cap hb p C vs L μ cnt T:=
 ⟨h.B.trans (a.mono (by have:=h.n1;have:=h.n2;have:=h.n3;have:=h.n4;omega)),h.S.below a,h.A.below a,h.F.below a,λi b=>by obtain⟨v,c,d⟩:=h.V i b;exact⟨v,c,ah d a⟩,h.M.below a,h.l5,h.n1,h.n2,h.n3,Nat.le_trans h.n4 a.size⟩
theorem kq {base:Nat} {e:TypeId} {sz:Nat} {v:Value} {k:Nat} {xs:List Value} (h:wr.ownsRow base e sz v k xs) {a:Addr} (j:a.block<base) (u:Value):(wr.setCell a u).ownsRow base e sz v k xs:=by
 refine⟨h.1,?_⟩;rcases h.2 with b|⟨g,cap,i,c,b,d,f⟩
 ·exact .inl b
 ·exact .inr ⟨g,cap,i,c,b,(Below.heap_setCell _ _ _ _ oO).trans d,f⟩
theorem QS.cost (h:QS w wr n ob base sb cb cap hb p C vs L μ cnt T) (a m x:Nat) (b:a<=p.size) (c:m<5) (d:x<=1073741824):
 QS w (wr.setCell ⟨cb,a* 5+m,none⟩ (.int .i64 (x:Int))) n ob base sb cb cap hb p (jh C a m x) vs L μ cnt T:=by
 have j:=h.n1;have k:=h.n2;have l:=h.n3
 exact⟨h.B.setCell (by show n<=cb;omega) _,h.S.set a m x b c d,h.A.other _ _ (by show ob≠cb;omega),h.F.set _ _,λi e=>by obtain⟨v,f,g⟩:=h.V i e;exact⟨v,f,kq g (by show cb<base;omega) _⟩,h.M.set (by exact h.S.n3) _,h.l5,h.n1,h.n2,h.n3,by simpa using h.n4⟩
theorem QS.slot (h:QS w wr n ob base sb cb cap hb p C vs L μ cnt T) (v:Value) (f:μ<5) (g:wr.ownsRow base 181 7 v (L μ).length ((L μ).flatMap an.aC)):
 QS w (wr.setCell ⟨ob,μ,none⟩ v) n ob base sb cb cap hb p C (vs.set μ v) L (μ+1) cnt T:=by
 have q:=h.n1;have c:=h.n2;have r:=h.n3
 have hs:=h.S.S;have d:∀b i,b<ob->(wr.setCell ⟨ob,μ,none⟩ v).cell? ⟨b,i,none⟩=wr.cell? ⟨b,i,none⟩:=λb i hb=>World.cell?_setCell_other wr _ _ _ (λe=>by injection e with e1;omega)
 refine⟨h.B.setCell (by show n<=ob;omega) _,⟨⟨by simpa using hs.lt,by rw[d _ _ c.1];exact hs.c0,λi u j=>by rw[d _ _ c.1];exact hs.ct i u j,by rw[d _ _ c.1];exact hs.cc,by rw[d _ _ c.1];exact hs.cm,by simpa using hs.cl,λa m k f=>by rw[d _ _ c.2.1];exact hs.cz a m k f,hs.hc,hs.hp,hs.b⟩,h.S.F.set _ _,h.S.n1,h.S.n2,h.S.n3⟩,
  h.A.set μ v (by rw[h.l5];exact f),h.F.set _ _,λi s=>?_,h.M.set (by show hb≠ob;omega) _,by rw[List.length_set];exact h.l5,h.n1,h.n2,h.n3,by simpa using h.n4⟩
 by_cases e:i=μ
 ·subst e;exact⟨v,by rw[List.getElem?_set_self (by rw[h.l5];exact f)],kq g (by show ob<base;omega) _⟩
 ·obtain⟨u,l,o⟩:=h.V i oO;exact⟨u,by rw[List.getElem?_set_ne (Ne.symm e)];exact l,kq o (by show ob<base;omega) _⟩
theorem QS.put (h:QS w wr n ob base sb cb cap hb p C vs L μ cnt T) {a:Nat->Nat->Option an} {d:Nat} (hg:wr.grownBy W (some hb)) (f:cU W hb d a):QS w W n ob base sb cb cap hb p C vs L μ d a:=by
 have o:=h.n1;have r:=h.n2;have s:=h.n3
 refine⟨h.B.grown hg (by have:=h.n4;omega) (λk b=>by injection b with b;omega),h.S.grown hg h.S.n2 h.S.n3,h.A.grown hg (λq hq=>by injection hq with hq;omega),h.F.grown hg (λe=>by injection e with e;omega),λi j=>?_,f,h.l5,h.n1,h.n2,h.n3,Nat.le_trans h.n4 hg.size⟩;obtain⟨v,l,c⟩:=h.V i j;refine⟨v,l,c.kept hg ?_⟩;cases m:v.ownBlock with
 |none=>exact .inl rfl
 |some g=>right;intro e;injection e with e;have:=(c.lt g m).1;omega
theorem QS.row (h:QS w wr n ob base sb cb cap hb p C vs L μ cnt T) (i:Nat) (m:i<μ):∃A c,vs[i]?=some (.slice A (L i).length c)/\
 ∀j,j<(L i).length->∃g,A=some ⟨g,0,none⟩/\∀W,Below wr.heap.size wr W->∀a,(L i)[j]?=some a->∀k u,a.aC[k]?=some u->W.cell? ⟨g,j* 7+k,none⟩=some u:=by
 obtain⟨v,e,f⟩:=h.V i m;rcases f.2 with⟨rfl,o⟩|⟨g,cap,y,rfl,hb,hg,z,rm,B,x⟩
 ·exact⟨none,0,by rw[o];exact e,λj q=>by omega⟩
 ·refine⟨_,cap,e,λj q=>⟨g,rfl,λW r a s k u b=>?_⟩⟩;have t:k<7:=by
   rcases Nat.lt_or_ge k 7 with d|d
   ·exact d
   ·rw[List.getElem?_eq_none (by show 7<=k;exact d)]at b;cases b
  have l:=f.cells (g:=g) rfl (j* 7+k) u (by rw[qo _ _ _ _ s t];exact b);rw[add_plain,Nat.zero_add]at l;exact(r.cell (aw hg)).trans l
end
end
end Go.Proofs.YtmnlkganmgcpbaaGreatDoor
