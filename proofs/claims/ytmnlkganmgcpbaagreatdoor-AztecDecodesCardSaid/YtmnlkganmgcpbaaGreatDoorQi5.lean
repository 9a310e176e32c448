import Derived.Test.YtmnlkganmgcpbaaGreatDoorQi4
import Derived.Maps.OwnOps
set_option maxRecDepth 100000
set_option maxHeartbeats 4000000
set_option linter.unusedVariables false
set_option linter.unusedSectionVars false
set_option linter.unusedSimpArgs false
set_option linter.defProp false
open Go.Value renaming int->I
open Go.IntKind renaming i64->J
open Bool renaming false->R,true->wP
open Option renaming none->U,some->gk
open Go renaming World->wR,Calls->wS,Value->xf,wpList->y7,execOp->Bq,Operand->HK
open Go.Proofs.Tryz renaming prog->w1,underlying168->N2,underlying179->S1,underlying169->Uk
open Go.RowKit renaming Hid->w2
open Go.RowKit.Below renaming refl->w3
open _root_ renaming beq_eq_false_iff_ne->w4,if_neg->w6,if_pos->xl,Option->xv,ByteArray->x2,of_decide_eq_true->Ap
open Nat renaming le_refl->w5,lt_of_lt_of_le->x6,le_of_lt->Wg
open List renaming length_append->w9,getD->x4,mem_singleton->A2,append_nil->A5,getElem?_eq_none->B4,mem_append->Dq,map_toArray->H3,flatMap_cons->Vk
open Go.Result renaming andThen_ok->y2
open Go.World renaming cell?_setCell_other->At,block_lt_of_cell?->UA,cell?_setCell_same->VQ
open Go.Op renaming store->HZ,alloc->UC,index->VS
open Go.Lib renaming hasPrefix->U6
open Go.Proofs.Tryz
namespace Go.Proofs.YtmnlkganmgcpbaaGreatDoor
section
open Go.RowKit
def preB (a:x2) (at_:Nat) (b:x2):Bool:=U6 (a.extract at_ a.size).data.toList b.data.toList
def og (b:x2) (at_ m n a s:Nat):List aF:=
 if cF a s=1/\preB b at_ (dj a s)=wP then[⟨n,(s:Int),0,R,ar m+ar a,at_+(dj a s).size,m⟩]else[]
def ee (a:x2) (at_ m n b:Nat):Nat->List aF
 |0=>[]
 |k+1=>ee a at_ m n b k++og a at_ m n b k
def fa (b:Nat->Nat->Nat) (a:x2) (at_ m n:Nat):List aF:=
 if cF m n=1 then(if preB a at_ (dj m n)=wP then[⟨n,-1,0,R,ar m,at_+(dj m n).size,m⟩]else[])
 else if cF m n=2 then[⟨n,-1,0,R,ar m,at_,cD m n⟩]
 else if cF m n=3 then ee a at_ m n (cD m n) 32
 else if cF m n=4 then[ga b n at_ m (a.size-at_)]
 else[]
def cd (a:Nat->Nat->Nat) (b:x2) (at_ m:Nat):Nat->List aF
 |0=>[]
 |k+1=>cd a b at_ m k++fa a b at_ m k
theorem NR (a:x2) (at_ m n b s:Nat):(og a at_ m n b s).length<=1:=by unfold og;split<;>simp
theorem vJ (a:x2) (at_ m n b:Nat):∀k,(ee a at_ m n b k).length<=k
 |0=>w5 _
 |k+1=>by
  have c:=vJ a at_ m n b k;have d:=NR a at_ m n b k;unfold ee;rw[w9];omega
theorem O7 (c:Nat->Nat->Nat) (a:x2) (at_ m n:Nat):(fa c a at_ m n).length<=32:=by
 have h:=vJ a at_ m n (cD m n) 32;unfold fa;generalize ee a at_ m n (cD m n) 32=g at*;generalize ga c n at_ m (a.size-at_)=q;generalize preB a at_ (dj m n)=z;generalize cF m n=b;by_cases d:b=1
 ·rw[xl d];cases z<;>simp
 ·rw[w6 d];by_cases e:b=2
  ·rw[xl e];simp
  ·rw[w6 e];by_cases f:b=3
   ·rw[xl f];exact h
   ·rw[w6 f];split<;>simp
theorem tm (a:Nat->Nat->Nat) (b:x2) (at_ m:Nat):∀k,(cd a b at_ m k).length<=32* k
 |0=>w5 _
 |k+1=>by
  have c:=tm a b at_ m k;have d:=O7 a b at_ m k;unfold cd;rw[w9];omega
theorem oP (m n:Nat):cD m n<5:=by unfold cD;split<;>omega
theorem je:∀m,m<5->∀n,n<32->(dj m n).size<=2:=Ap oK
theorem M5:(prog.info? 181).map (λa=>(a.zero,a.size,a.bytes))=gk (gk (.agg #[I J 0,I J 0,I J 0,.bool R,I J 0,I J 0,I J 0]),7,56):=oK
structure j9 (w wr:wR) (v:xf) (a:List aF):Prop where
 B:af w wr
 O:wr.ownsRow w.heap.size 181 7 v a.length (a.flatMap aF.aN)
theorem j9.start (w wr:wR) (h:af w wr):j9 w wr (.slice U 0 0) []:=⟨h,World.ownsRow_nil _ _ _ _⟩
theorem j9.below {w wr W:wR} {v:xf} {a:List aF} (h:j9 w wr v a) (b:af wr W):j9 w W v a:=⟨ae h.B b,aq h.O b⟩
theorem j9.lift {w c wr:wR} {v:xf} {b:List aF} (h:j9 c wr v b) (d:af w c):j9 w wr v b:=by
 refine⟨ae d h.B,h.O.1,?_⟩;rcases h.O.2 with a|⟨e,cap,i,f,a,g⟩
 ·exact .inl a
 ·exact .inr ⟨e,cap,i,f,Nat.le_trans d.size a,g⟩
theorem Ab {w wr W:wR} {v:xf} {d:List aF} (h:j9 w wr v d) (g:af wr W) (i:TypeId) (e:Addr) (c:Nat) (x:aF) (hc:∀f u,x.aN[f]?=gk u->W.cell? (e.add f)=gk u) (hl:d.length<=5000):
 ∃a b,(Builtin.append_ #[218,218] i #[v,.slice (gk e) 1 c]).run w1 W= .ok a b/\j9 w b a (d++[x])/\W.grownBy b v.ownBlock/\(a.ownBlock=v.ownBlock\/a.ownBlock=gk W.heap.size):=by
 obtain⟨m,n,r,s,t⟩:=info_parts M5;have j:=aq h.O g;have hB:=ae h.B g;obtain⟨a,b,y,o,l,_,p⟩:=run_append_own_at (P:=w1) W w.heap.size 218 i 181 m _ 7 56 underlying218 n r s t rfl oO v d.length _ j e 1 c x.aN (by rfl) hc (aF.one x) oM oO hB.size;refine⟨a,b,y,⟨hB.grown l hB.size (λk q=>(j.lt k q).1),?_⟩,l,p⟩;rw[w9,List.flatMap_append,List.flatMap_singleton];exact o
theorem l9 {j:Array Oper} {k:List Oper} {b:Oper} {a:Act} {Q:Exit->Act->wR->Prop} {w wr W:wR} {v:xf} {f:List aF} (h:j9 w wr v f) (l:af wr W) (r:b.guard=U) (s y:HK)
 (m:b.op= .call {callee:= .builtin .append,args:=#[s,y],argTypes:=#[218,218]}) (hs:a.eval s=v) (g:Addr) (c:Nat) (x:aF) (n:a.eval y= .slice (gk g) 1 c)
 (hc:∀i u,x.aN[i]?=gk u->W.cell? (g.add i)=gk u) (hl:f.length<=5000) (o:∀d e,w2 (j9 w e d (f++[x]))->y7 w1 j Q k (a.put b.dst d) e):y7 w1 j Q (b::k) a W:=by
 refine wpList_plain r λK p=>?_;obtain⟨d,e,t,q,z⟩:=Ab h l b.type g c x hc hl;unfold Oper.wp Bq;simp only[m,resolve,invoke,builtin,Sem.run_bind,Sem.run_pure,y2,H3,List.map_cons,List.map_nil,hs,n,t];exact p _ _ (o d e q)
theorem zC {e:Oper} {a:Act} {w wr W:wR} {v:xf} {f:List aF} (h:j9 w wr v f) (j:af wr W) (s y:HK)
 (k:e.op= .call {callee:= .builtin .append,args:=#[s,y],argTypes:=#[218,218]}) (hs:a.eval s=v) (g:Addr) (c:Nat) (x:aF) (l:a.eval y= .slice (gk g) 1 c)
 (hc:∀i u,x.aN[i]?=gk u->W.cell? (g.add i)=gk u) (hl:f.length<=5000):∃b d,(Bq a.eval e).run w1 W= .ok (.value b) d/\j9 w d b (f++[x])/\W.grownBy d v.ownBlock/\(b.ownBlock=v.ownBlock\/b.ownBlock=gk W.heap.size):=by
 obtain⟨b,d,o,m,n⟩:=Ab h j e.type g c x hc hl;refine⟨b,d,?_,m,n⟩;unfold Bq;simp only[k,resolve,invoke,builtin,Sem.run_bind,Sem.run_pure,y2,H3,List.map_cons,List.map_nil,hs,l,o]
theorem zm {i:Array Oper} {S:wR->Prop} {K:Act->wR->Prop} {j:List (Bool×Nat×Oper)} {k:Nat} {e:Oper} {a:Act} {w wr W:wR} {v:xf} {f:List aF} (h:j9 w wr v f) (n:af wr W)
 (A:Region.wanted e (yielded i a.tmps)=wP) (s y:HK)
 (o:e.op= .call {callee:= .builtin .append,args:=#[s,y],argTypes:=#[218,218]}) (hs:a.eval s=v) (g:Addr) (c:Nat) (x:aF) (p:a.eval y= .slice (gk g) 1 c)
 (hc:∀l u,x.aN[l]?=gk u->W.cell? (g.add l)=gk u) (hl:f.length<=5000)
 (q:∀b d,j9 w d b (f++[x])->W.grownBy d v.ownBlock->(b.ownBlock=v.ownBlock\/b.ownBlock=gk W.heap.size)->S d/\bI w1 i S K j (a.put e.dst b) d):bI w1 i S K ((wP,k,e)::j) a W:=by
 obtain⟨b,d,B,r,t,z⟩:=zC h n s y o hs g c x p hc hl;have m:=q b d r t z;exact fl A B m.1 m.2
theorem gE {W:wR} {b:Nat} {c:List xf} (h:an W b c):∀a v,c[a]?=gk v->W.cell? ((⟨b,0,U⟩:Addr).add a)=gk v:=by
 intro a v d;have hl:a<c.length:=by
  rcases Nat.lt_or_ge a c.length with e|e
  ·exact e
  ·rw[B4 e]at d;cases d
 rw[add_plain,Nat.zero_add,h.2 a hl];simp[x4,d]
theorem aF.St (a:aF):a.val= .agg #[I J (a.num:Int),I J a.sec,I J (a.run:Int),.bool a.long,I J (a.size:Int),I J (a.at_:Int),I J (a.mode:Int)]:=rfl
theorem qc (W:wR) (x:aF) (a:TypeId) (b:Nat) (hb:b=W.heap.size):∀c u,x.aN[c]?=gk u->(W.alloc (.cells x.aN.toArray a)).cell? ((⟨b,0,U⟩:Addr).add c)=gk u:=sX (aF.cells W x a b hb)
theorem vK {a:Act} {g:Oper} {W:wR} {c k cap hb:Nat} {i:x2} {j:Nat->Nat->Nat} {q:HK} (h:SW W c k cap hb i j) (l:g.op= .load 169 q) (f m:Nat) (n:a.eval q= .pointer (gk ⟨c,f,U⟩)) (o:f=1+m* 96) (p:m<5):
 (Bq a.eval g).run w1 W= .ok (.value (.agg (qD m).toArray)) W:=by
 subst o
 have r:=gQ (P:=w1) W 169 _ ⟨c,1+m* 96,U⟩ (qD m) Uk rfl (by rw[tv];kernel_rfl) (λb v d=>by
  have hl:b<96:=by
   rcases Nat.lt_or_ge b 96 with e|e
   ·exact e
   ·rw[B4 (by rw[tv];exact e)]at d;cases d
  rw[add_plain,Nat.add_assoc];refine h.ct _ _ ?_
  rw[zA m b p hl];exact d)
 unfold Bq;simp only[l,n,Instr.loadAt,Instr.sureAddr,Sem.run_bind,Sem.run_pure,y2,r]
theorem lE {a:Act} {f:Oper} {W:wR} (c:TypeId) (d:TypeDesc) (g:prog.underlying c=gk d) (i:rO d=wP) {q:HK} (j:f.op= .load c q) (b:Nat) (e:List xf) (k:(prog.info? c).map (·.size)=gk e.length) (l:a.eval q= .pointer (gk ⟨b,0,U⟩)) (h:an W b e):
 (Bq a.eval f).run w1 W= .ok (.value (.agg e.toArray)) W:=by
 have m:=gQ (P:=w1) W c d ⟨b,0,U⟩ e g i k (gE h);unfold Bq;simp only[j,l,Instr.loadAt,Instr.sureAddr,Sem.run_bind,Sem.run_pure,y2,m]
theorem an.grown {W c:wR} {b:Nat} {d:List xf} {row:xv Nat} (h:an W b d) (hg:W.grownBy c row) (g:∀q,row=gk q->q≠b):an c b d:=
 ⟨x6 h.1 hg.size,λa f=>(hg.cell_far ⟨b,a,U⟩ h.1 (λe=>g b e.symm rfl)).trans (h.2 a f)⟩
theorem iH:(prog.info? 168).map (·.zero)=gk (gk (.agg #[I J 0,I J 0,.string ByteArray.empty])):=oK
theorem mZ:(prog.info? 179).map (·.zero)=gk (gk (.agg #[I J 0,I J 0])):=oK
theorem fu:(prog.info? 179).map (·.size)=gk 2:=oK
theorem jN (a b:Int):∀v∈[Value.int .i64 a,I J b],v.oneCell'=wP:=by
 intro v c;simp only[List.mem_cons,List.not_mem_nil,or_false]at c;rcases c with rfl|rfl<;>rfl
theorem Gm (at_ m:Nat) (w:wR) (x M cap hb:Nat) (a:x2) (d:Nat->Nat->Nat) (h:SW w x M cap hb a d) (c4:at_<a.size) (bf:m<5):
 wS w1 179 #[.pointer (gk ⟨x,0,U⟩),.agg #[I J (at_:Int),I J (m:Int)]] w
  λe V=>∃v,e= .returned v/\j9 w V v (cd d a at_ m 32):=by
 have d0:=h.hp;have c5:=aa h;have d7:(m:Int)<5:=oO;have d8:at_<=4096:=oO;have d9:at_<=a.size:=oO;have bi:w2 (an (w.alloc (.cells #[I J (at_:Int),I J (m:Int)] 179)) w.heap.size [I J (at_:Int),I J (m:Int)]):=an.new w #[I J (at_:Int),I J (m:Int)] _ _ rfl;have bs:w2 (SW (w.alloc (.cells #[I J (at_:Int),I J (m:Int)] 179)) x M cap hb a d):=h.below (ax _ _);have b9:w2 (af w (w.alloc (.cells #[I J (at_:Int),I J (m:Int)] 179))):=ax _ _;clear h c5;go_enter func179,ntmps179;go_wp2;generalize w.alloc (.cells #[I J (at_:Int),I J (m:Int)] 179)=F at*;have a5:w2 (∀W,af F W->W.cell? ⟨x,0,U⟩=gk (.string a)/\W.cell? ⟨w.heap.size,0,U⟩=gk (I J (at_:Int))/\W.cell? ⟨w.heap.size,1,U⟩=gk (I J (m:Int))):=by
  show∀W,_;intro W j;have b4:=bi.out.below j;exact⟨(bs.out.below j).c0,b4.2 0 oS,b4.2 1 oS⟩
 refine yO (af F) [1,2,3,4,5,6,7,8] (ai (w3 _ _)) ?_
 repeat refine zO a5.out ?_
 refine aj ?_;have bo:=(a5.out F.drew (ai (w3 _ _))).2.2;go_wp2_with(go_at_call 132;refine(fY m _).mono ?_;rintro e V ⟨rfl,l⟩;rw[l];clear l)
 have B:w2 (∀W,af F.drew W->W.cell? ⟨x,0,U⟩=gk (.string a)/\W.cell? ⟨w.heap.size,0,U⟩=gk (I J (at_:Int))/\W.cell? ⟨w.heap.size,1,U⟩=gk (I J (m:Int))):=λW j=>a5.out W (ae (ai (w3 _ _)) j);have bt:w2 (SW F.drew x M cap hb a d):=bs.out.below (ai (w3 _ _));have ca:w2 (af w F.drew):=ai b9.out;have cb:w2 (an F.drew w.heap.size [I J (at_:Int),I J (m:Int)]):=bi.out.below (ai (w3 _ _));clear bi bs b9 a5 bo;generalize F.drew=y at*;refine yO (af y) [1,2,3,4,5,6,7,8] (ai (w3 _ _)) ?_;refine zO B.out ?_;refine zO B.out ?_;refine zO B.out ?_;refine zO B.out ?_;refine zO B.out ?_;refine zO B.out ?_;refine' zV rfl (λW j=>vK (bt.out.below j) rfl _ m rfl oO bf) ?_
 repeat refine zO B.out ?_
 refine aj ?_;have C:w2 (SW y.drew x M cap hb a d):=bt.out.below (ai (w3 _ _));have c9:w2 (af w y.drew):=ai ca.out;have ce:w2 (an y.drew w.heap.size [I J (at_:Int),I J (m:Int)]):=cb.out.below (ai (w3 _ _));have bv:w2 (∀W,af y.drew W->W.cell? ⟨w.heap.size,0,U⟩=gk (I J (at_:Int))/\W.cell? ⟨w.heap.size,1,U⟩=gk (I J (m:Int))):=λW j=>(B.out W (ae (ai (w3 _ _)) j)).2;have dx:w2 (∀W,af y.drew W->an W w.heap.size [I J (at_:Int),I J (m:Int)]):=λW j=>ce.out.below j;have ea:w2 (w.heap.size<y.drew.heap.size):=UA _ _ (bv.out y.drew (w3 _ _)).1;clear bt ca B cb ce;generalize y.drew=z at*;obtain⟨A,ch⟩:∃A,w2 (A=(qD m).toArray):=⟨_,rfl⟩;rw[<-ch.out];obtain⟨q,al⟩:∃q,w2 (q=a.extract at_ a.size):=⟨_,rfl⟩;rw[<-al.out];go_wp2;go_loopw [5,31] (λa6 N wr=>∃k:Nat,k<=32/\N=I J k/\w2 (j9 z wr a6 (cd d a at_ m k))) (λ_ N _=>32-(intOf N).toNat)
 case atStart=>exact⟨0,Nat.zero_le _,rfl,j9.start _ _ (w3 _ _)⟩
 case round=>
  obtain⟨k,d1,rfl,f⟩:=hrel;by_cases D:k<32
  ·have G:w2 (A.extract (k* 3) (k* 3+3)=(qm m k).toArray):=by show _=_;rw[ch.out];exact H4 m k D
   have s:w2 (cd d a at_ m (k+1)=cd d a at_ m k++fa d a at_ m k):=rfl
   have o:w2 (fa d a at_ m k=if cF m k=1 then(if preB a at_ (dj m k)=wP then[⟨k,-1,0,R,ar m,at_+(dj m k).size,m⟩]else[])
    else if cF m k=2 then[⟨k,-1,0,R,ar m,at_,cD m k⟩]
    else if cF m k=3 then ee a at_ m k (cD m k) 32
    else if cF m k=4 then[ga d k at_ m (a.size-at_)]
    else[]):=rfl
   have a7:=aa (tm d a at_ m k);have da:=je m bf k D;have bx:=oP m k;obtain⟨a8,b5⟩:=bv.out wr f.out.B;have b6:w.heap.size<wr.heap.size:=UA _ _ a8;obtain⟨n,Q⟩:∃n,n=cF m k:=⟨_,rfl⟩;obtain⟨b,bb⟩:∃b,b=cD m k:=⟨_,rfl⟩;obtain⟨g,bd⟩:∃g,g=dj m k:=⟨_,rfl⟩;rw[<-Q,<-bb,<-bd]at o;unfold qm at G;rw[<-Q,<-bb,<-bd]at G;rw[<-bb]at bx;rw[<-bd]at da;clear Q bb bd;by_cases O:n=1
   ·subst O;cases r:preB a at_ g with
    |true=>
     obtain⟨no,u⟩:∃no:aF,no=⟨k,-1,0,R,ar m,at_+g.size,m⟩:=⟨_,rfl⟩;have am:=aa u;have p:w2 (cd d a at_ m (k+1)=cd d a at_ m k++[no]):=by show _=_;rw[s.out,o.out,xl rfl,r,xl rfl,u]
     have S:w2 (U6 q.data.toList g.data.toList=wP):=by show _=_;rw[al.out];exact r
     have c6:J.wrap ((at_:Int)+(g.size:Int))=((at_+g.size:Nat):Int):=by rw[aG _ oO oO];omega
     clear r s o C u
     go_wp2_with(first
      |(go_at_call 215;refine(Tryz.strings_HasPrefix _ _ _).mono ?_;rintro e V ⟨rfl,l⟩;rw[l,S.out];clear l)
      |(with_reducible show y7 _ _ _ (⟨_,VS 169 _ _,_,_,_,_⟩::_) _ _;refine eZ rfl 169 _ _ rfl 32 168 Uk _ N2 rfl 3 dW A .i64 k k rfl rfl rfl D _ G.out ?_)
      |(with_reducible show y7 _ _ _ (⟨_,UC 168,_,_,_,_⟩::_) _ _;refine bj rfl 168 rfl _ iH ?_)
      |(with_reducible show y7 _ _ _ (⟨_,UC 179,_,_,_,_⟩::_) _ _;refine bj rfl 179 rfl _ mZ ?_)
      |(with_reducible show y7 _ _ _ (⟨_,HZ 168 _ _,_,_,_,_⟩::_) _ _;refine bG rfl 168 _ _ rfl 168 _ _ rfl rfl dW rfl (fV _ _ _) ?_)
      |(with_reducible show y7 _ _ _ (⟨_,HZ 179 _ _,_,_,_,_⟩::_) _ _;refine bG rfl 179 _ _ rfl 179 _ [_,_] rfl rfl fu rfl (jN _ _) ?_)
      |(with_reducible show y7 _ _ _ (⟨_,Op.load 179 _,_,_,_,_⟩::_) _ _;refine aP rfl 179 _ rfl _ S1 rfl _ [_,_] fu rfl (gE (an.new _ #[_,_] _ _ oS)) ?_)
      |(at_builtin;refine l9 f.out (ah (ah (ax _ _) _) _) rfl _ _ rfl rfl _ _ no (by rfl) (by rw[am.out];exact qc _ ⟨k,-1,0,R,ar m,at_+g.size,m⟩ _ _ oS) (by have:=a7.out;omega) ?_;intro a9 H P))
     exact⟨⟨k+1,by omega,by go_num,by rw[p.out];exact P.out⟩,by simp[intOf];omega⟩
    |false=>
     have p:w2 (cd d a at_ m (k+1)=cd d a at_ m k):=by show _=_;rw[s.out,o.out,xl rfl,r,w6 oS,A5]
     have S:w2 (U6 q.data.toList g.data.toList=R):=by show _=_;rw[al.out];exact r
     clear r s o C
     go_wp2_with(first
      |(go_at_call 215;refine(Tryz.strings_HasPrefix _ _ _).mono ?_;rintro e V ⟨rfl,l⟩;rw[l,S.out];clear l)
      |(with_reducible show y7 _ _ _ (⟨_,VS 169 _ _,_,_,_,_⟩::_) _ _;refine eZ rfl 169 _ _ rfl 32 168 Uk _ N2 rfl 3 dW A .i64 k k rfl rfl rfl D _ G.out ?_)
      |(with_reducible show y7 _ _ _ (⟨_,UC 168,_,_,_,_⟩::_) _ _;refine bj rfl 168 rfl _ iH ?_)
      |(with_reducible show y7 _ _ _ (⟨_,HZ 168 _ _,_,_,_,_⟩::_) _ _;refine bG rfl 168 _ _ rfl 168 _ _ rfl rfl dW rfl (fV _ _ _) ?_))
     exact⟨⟨k+1,by omega,by go_num,by rw[p.out];exact f.out.below (ax _ _)⟩,by simp[intOf];omega⟩
   have c7:((n:Int)==1)=R:=by rw[w4];omega
   by_cases bq:n=2
   ·subst bq;obtain⟨no,u⟩:∃no:aF,no=⟨k,-1,0,R,ar m,at_,b⟩:=⟨_,rfl⟩;have am:=aa u;have p:w2 (cd d a at_ m (k+1)=cd d a at_ m k++[no]):=by show _=_;rw[s.out,o.out,w6 oO,xl rfl,u]
    clear s o C u
    go_wp2_with(first
     |(with_reducible show y7 _ _ _ (⟨_,VS 169 _ _,_,_,_,_⟩::_) _ _;refine eZ rfl 169 _ _ rfl 32 168 Uk _ N2 rfl 3 dW A .i64 k k rfl rfl rfl D _ G.out ?_)
     |(with_reducible show y7 _ _ _ (⟨_,UC 168,_,_,_,_⟩::_) _ _;refine bj rfl 168 rfl _ iH ?_)
     |(with_reducible show y7 _ _ _ (⟨_,HZ 168 _ _,_,_,_,_⟩::_) _ _;refine bG rfl 168 _ _ rfl 168 _ _ rfl rfl dW rfl (fV _ _ _) ?_)
     |(at_builtin;refine l9 f.out (ah (ax _ _) _) rfl _ _ rfl rfl _ _ no (by rfl) (by rw[am.out];exact qc _ ⟨k,-1,0,R,ar m,at_,b⟩ _ _ oS) (by have:=a7.out;omega) ?_;intro a9 H P))
    exact⟨⟨k+1,by omega,by go_num,by rw[p.out];exact P.out⟩,by simp[intOf];omega⟩
   have d2:((n:Int)==2)=R:=by rw[w4];omega
   by_cases k3:n=3
   ·subst k3;have p:w2 (cd d a at_ m (k+1)=cd d a at_ m k++ee a at_ m k b 32):=by show _=_;rw[s.out,o.out,w6 oO,w6 oO,xl rfl]
    have ci:w2 (SW (wr.alloc (.cells #[I J 3,I J (b:Int),.string g] 168)) x M cap hb a d):=(C.out.below f.out.B).below (ax _ _);have E:w2 (an (wr.alloc (.cells #[I J 3,I J (b:Int),.string g] 168)) wr.heap.size [I J 3,I J (b:Int),.string g]):=an.new _ #[I J 3,I J (b:Int),.string g] _ _ rfl;have ck:w2 (j9 z (wr.alloc (.cells #[I J 3,I J (b:Int),.string g] 168)) u5 (cd d a at_ m k)):=f.out.below (ax _ _);have co:w2 (∀q,u5.ownBlock=gk q->q≠wr.heap.size):=λq hq=>by have:=(f.out.O.lt q hq).2;omega
    clear s o C f
    go_wp2_with(first
     |(with_reducible show y7 _ _ _ (⟨_,VS 169 _ _,_,_,_,_⟩::_) _ _;refine eZ rfl 169 _ _ rfl 32 168 Uk _ N2 rfl 3 dW A .i64 k k rfl rfl rfl D _ G.out ?_)
     |(with_reducible show y7 _ _ _ (⟨_,UC 168,_,_,_,_⟩::_) _ _;refine bj rfl 168 rfl _ iH ?_)
     |(with_reducible show y7 _ _ _ (⟨_,HZ 168 _ _,_,_,_,_⟩::_) _ _;refine bG rfl 168 _ _ rfl 168 _ _ rfl rfl dW rfl (fV _ _ _) ?_))
    generalize wr.alloc (.cells #[I J 3,I J (b:Int),.string g] 168)=H at*;generalize wr.heap.size=t at*;have K:w2 (∀W,af H W->W.cell? ⟨t,1,U⟩=gk (I J (b:Int))):=λW j=>(E.out.below j).2 1 oS;have ed:(b:Int)<5:=oO;refine yO (af H) [1,2,3,4,5,6,7,8] (ai (w3 _ _)) ?_;refine zO K.out ?_;refine zO K.out ?_;refine zO K.out ?_;refine zO K.out ?_;refine zO K.out ?_;refine zO K.out ?_;refine' zV rfl (λW j=>vK (ci.out.below j) rfl _ b rfl oO bx) ?_
    repeat refine zO K.out ?_
    refine aj ?_;have cy:w2 (an H.drew t [I J 3,I J (b:Int),.string g]):=E.out.below (ai (w3 _ _));have c2:w2 (j9 z H.drew u5 (cd d a at_ m k)):=ck.out.below (ai (w3 _ _));clear ci E ck K;generalize H.drew=c8 at*;obtain⟨Z,cp⟩:∃Z,w2 (Z=(qD b).toArray):=⟨_,rfl⟩;rw[<-cp.out];go_wp2;go_loopw [5,81] (λa6 N wr=>∃c:Nat,c<=32/\N=I J c/\w2 (j9 z wr a6 (cd d a at_ m k++ee a at_ m k b c))/\w2 (an wr t [I J 3,I J (b:Int),.string g])/\w2 (∀q,a6.ownBlock=gk q->q≠t)) (λ_ N _=>32-(intOf N).toNat)
    case atStart=>exact⟨0,Nat.zero_le _,rfl,by show j9 _ _ _ _;rw[show ee a at_ m k b 0=[]from rfl,A5];exact c2.out,cy.out,co.out⟩
    case round=>
     clear c2 cy co a8 b5 b6;obtain⟨c,d3,rfl,f,ab,ap⟩:=hrel;by_cases a3:c<32
     ·have av:w2 (Z.extract (c* 3) (c* 3+3)=(qm b c).toArray):=by show _=_;rw[cp.out];exact H4 b c a3
      have ad:w2 (ee a at_ m k b (c+1)=ee a at_ m k b c++og a at_ m k b c):=rfl;have T:w2 (og a at_ m k b c=if cF b c=1/\preB a at_ (dj b c)=wP then[⟨k,(c:Int),0,R,ar m+ar b,at_+(dj b c).size,m⟩]else[]):=rfl;have dd:=aa (vJ a at_ m k b c);have dy:=je b bx c a3;obtain⟨a8,b5⟩:=bv.out wr f.out.B;have b6:w.heap.size<wr.heap.size:=UA _ _ a8;obtain⟨n,Q⟩:∃n,n=cF b c:=⟨_,rfl⟩;obtain⟨ac,cq⟩:∃ac,ac=cD b c:=⟨_,rfl⟩;obtain⟨i,be⟩:∃i,i=dj b c:=⟨_,rfl⟩;rw[<-Q,<-be]at T;unfold qm at av;rw[<-Q,<-cq,<-be]at av;rw[<-be]at dy;clear Q cq be;by_cases O:n=1
      ·subst O;cases r:preB a at_ i with
       |true=>
        obtain⟨no,u⟩:∃no:aF,no=⟨k,(c:Int),0,R,ar m+ar b,at_+i.size,m⟩:=⟨_,rfl⟩;have am:=aa u;have a0:w2 (ee a at_ m k b (c+1)=ee a at_ m k b c++[no]):=by show _=_;rw[ad.out,T.out,xl ⟨rfl,r⟩,u]
        have S:w2 (U6 q.data.toList i.data.toList=wP):=by show _=_;rw[al.out];exact r
        have c6:J.wrap ((at_:Int)+(i.size:Int))=((at_+i.size:Nat):Int):=by rw[aG _ oO oO];omega
        have ec:J.wrap ((ar m:Int)+(ar b:Int))=((ar m+ar b:Nat):Int):=by have:=gU m;have:=gU b;rw[aG _ oO oO];omega
        have de:w2 ((cd d a at_ m k++ee a at_ m k b c).length<=2000):=by show _<=_;rw[w9];have:=a7.out;have:=dd.out;omega
        clear r ad T u
        go_wp2_with(first
         |(go_at_call 215;refine(Tryz.strings_HasPrefix _ _ _).mono ?_;rintro e V ⟨rfl,l⟩;rw[l,S.out];clear l)
         |(with_reducible show y7 _ _ _ (⟨_,VS 169 _ _,_,_,_,_⟩::_) _ _;refine eZ rfl 169 _ _ rfl 32 168 Uk _ N2 rfl 3 dW Z .i64 c c rfl rfl rfl a3 _ av.out ?_)
         |(with_reducible show y7 _ _ _ (⟨_,UC 168,_,_,_,_⟩::_) _ _;refine bj rfl 168 rfl _ iH ?_)
         |(with_reducible show y7 _ _ _ (⟨_,HZ 168 _ _,_,_,_,_⟩::_) _ _;refine bG rfl 168 _ _ rfl 168 _ _ rfl rfl dW rfl (fV _ _ _) ?_)
         |(with_reducible show y7 _ _ _ (⟨_,UC 179,_,_,_,_⟩::_) _ _;refine bj rfl 179 rfl _ mZ ?_)
         |(with_reducible show y7 _ _ _ (⟨_,HZ 179 _ _,_,_,_,_⟩::_) _ _;refine bG rfl 179 _ _ rfl 179 _ [_,_] rfl rfl fu rfl (jN _ _) ?_))
        have a1:w2 (j9 z ((wr.alloc (.cells #[I J 1,I J (ac:Int),.string i] 168)).alloc (.cells #[I J ((at_:Int)+(i.size:Int)),I J (m:Int)] 179)) u5 (cd d a at_ m k++ee a at_ m k b c)):=f.out.below (ah (ax _ _) _);have E:w2 (an ((wr.alloc (.cells #[I J 1,I J (ac:Int),.string i] 168)).alloc (.cells #[I J ((at_:Int)+(i.size:Int)),I J (m:Int)] 179)) t [I J 3,I J (b:Int),.string g]):=(ab.out.alloc _).alloc _;have a4:w2 (an ((wr.alloc (.cells #[I J 1,I J (ac:Int),.string i] 168)).alloc (.cells #[I J ((at_:Int)+(i.size:Int)),I J (m:Int)] 179)) (wr.heap.size+1) [I J ((at_:Int)+(i.size:Int)),I J (m:Int)]):=an.new _ #[I J ((at_:Int)+(i.size:Int)),I J (m:Int)] _ _ oS;have b2:w2 (∀q,u5.ownBlock=gk q->q≠t/\q≠wr.heap.size+1):=λq hq=>⟨ap.out q hq,by have:=(f.out.O.lt q hq).2;omega⟩;clear f ab ap;generalize(wr.alloc (.cells #[I J 1,I J (ac:Int),.string i] 168)).alloc (.cells #[I J ((at_:Int)+(i.size:Int)),I J (m:Int)] 179)=X at*;generalize wr.heap.size+1=a2 at*;have L:w2 (∀W,(af z W/\an W t [I J 3,I J (b:Int),.string g]/\an W a2 [I J ((at_:Int)+(i.size:Int)),I J (m:Int)])->W.cell? ⟨t,1,U⟩=gk (I J (b:Int))):=λW j=>j.2.1.2 1 oS;refine yO (λW=>af z W/\an W t [I J 3,I J (b:Int),.string g]/\an W a2 [I J ((at_:Int)+(i.size:Int)),I J (m:Int)]) [1,2,3,4,5,6,9,0,7,0,8,0,10,11,12,0,13] ⟨ai a1.out.B,E.out.drew,a4.out.drew⟩ ?_;refine zO L.out ?_;refine zO L.out ?_;refine zO L.out ?_;refine zO L.out ?_;refine zO L.out ?_;refine zO L.out ?_;refine' zV rfl (λW j=>lE 179 _ S1 rfl rfl a2 [_,_] fu rfl j.2.2) ?_;refine zZ ?_;refine(fY b _).mono ?_;rintro e d4 ⟨rfl,l⟩;rw[l];clear l;refine⟨_,rfl,⟨ai a1.out.B,E.out.drew,a4.out.drew⟩,jO ?_⟩;refine zO L.out ?_;refine' zQ rfl (by go_simp;rfl) ⟨ai a1.out.B,E.out.drew,a4.out.drew⟩ ?_;have cr:w2 (j9 z X.drew u5 (cd d a at_ m k++ee a at_ m k b c)):=a1.out.below (ai (w3 _ _));have b3:w2 (an X.drew t [I J 3,I J (b:Int),.string g]):=E.out.drew;have c3:w2 (an X.drew a2 [I J ((at_:Int)+(i.size:Int)),I J (m:Int)]):=a4.out.drew;clear a1 E a4 L;generalize X.drew=Y at*;refine' zQ (v:= .slice (gk ⟨Y.heap.size,0,U⟩) 1 1) (w':=Y.alloc (.cells no.aN.toArray 181)) rfl (by rw[am.out];go_simp;rfl) ⟨ah cr.out.B _,b3.out.alloc _,c3.out.alloc _⟩ ?_;refine' zm cr.out (ax _ _) rfl _ _ rfl rfl _ _ no rfl (qc _ no _ _ rfl) (by have:=de.out;omega) ?_;intro a9 b7 bz hg cs;have P:=aa bz;have dz:w2 (∀q,a9.ownBlock=gk q->q≠t):=by
         show∀q,_;intro q hq;rcases cs with e|e
         ·exact(b2.out q (by rw[<-e];exact hq)).1
         ·rw[e]at hq;injection hq with hq;have:=b3.out.1;have e2:(Y.alloc (.cells no.aN.toArray 181)).heap.size=Y.heap.size+1:=by simp
          omega
        have b1:an b7 t [I J 3,I J (b:Int),.string g]:=(b3.out.alloc _).grown hg (λq hq=>(b2.out q hq).1);have cv:an b7 a2 [I J ((at_:Int)+(i.size:Int)),I J (m:Int)]:=(c3.out.alloc _).grown hg (λq hq=>(b2.out q hq).2);refine⟨⟨bz.B,b1,cv⟩,?_⟩;have di:=aa b1;clear bz hg cs b1 cv
        repeat refine zU ?_
        refine aj ?_;go_wp2;exact⟨⟨c+1,by omega,by go_num,by rw[a0.out,<-List.append_assoc];exact P.out,di.out,dz.out⟩,by simp[intOf];omega⟩
       |false=>
        have a0:w2 (ee a at_ m k b (c+1)=ee a at_ m k b c):=by show _=_;rw[ad.out,T.out,r,w6 oS,A5]
        have S:w2 (U6 q.data.toList i.data.toList=R):=by show _=_;rw[al.out];exact r
        clear r ad T
        go_wp2_with(first
         |(go_at_call 215;refine(Tryz.strings_HasPrefix _ _ _).mono ?_;rintro e V ⟨rfl,l⟩;rw[l,S.out];clear l)
         |(with_reducible show y7 _ _ _ (⟨_,VS 169 _ _,_,_,_,_⟩::_) _ _;refine eZ rfl 169 _ _ rfl 32 168 Uk _ N2 rfl 3 dW Z .i64 c c rfl rfl rfl a3 _ av.out ?_)
         |(with_reducible show y7 _ _ _ (⟨_,UC 168,_,_,_,_⟩::_) _ _;refine bj rfl 168 rfl _ iH ?_)
         |(with_reducible show y7 _ _ _ (⟨_,HZ 168 _ _,_,_,_,_⟩::_) _ _;refine bG rfl 168 _ _ rfl 168 _ _ rfl rfl dW rfl (fV _ _ _) ?_))
        exact⟨⟨c+1,by omega,by go_num,by rw[a0.out];exact f.out.below (ax _ _),ab.out.alloc _,ap.out⟩,by simp[intOf];omega⟩
      have c7:((n:Int)==1)=R:=by rw[w4];omega
      have a0:w2 (ee a at_ m k b (c+1)=ee a at_ m k b c):=by show _=_;rw[ad.out,T.out,w6 (λh=>O h.1),A5]
      clear O ad T
      go_wp2_with(first
       |(with_reducible show y7 _ _ _ (⟨_,VS 169 _ _,_,_,_,_⟩::_) _ _;refine eZ rfl 169 _ _ rfl 32 168 Uk _ N2 rfl 3 dW Z .i64 c c rfl rfl rfl a3 _ av.out ?_)
       |(with_reducible show y7 _ _ _ (⟨_,UC 168,_,_,_,_⟩::_) _ _;refine bj rfl 168 rfl _ iH ?_)
       |(with_reducible show y7 _ _ _ (⟨_,HZ 168 _ _,_,_,_,_⟩::_) _ _;refine bG rfl 168 _ _ rfl 168 _ _ rfl rfl dW rfl (fV _ _ _) ?_))
      exact⟨⟨c+1,by omega,by go_num,by rw[a0.out];exact f.out.below (ax _ _),ab.out.alloc _,ap.out⟩,by simp[intOf];omega⟩
     ·have dl:c=32:=oO;have dE:w2 (j9 z wr u5 (cd d a at_ m k++ee a at_ m k b 32)):=by rw[<-dl];exact f.out
      have bo:=(ab.out.2 0 oS);simp only[x4,List.getElem?_cons_zero,Option.getD_some]at bo;clear f ab ap;go_wp2;exact⟨⟨k+1,by omega,by go_num,by rw[p.out];exact dE.out⟩,by simp[intOf];omega⟩
   have d5:((n:Int)==3)=R:=by rw[w4];omega
   by_cases k4:n=4
   ·subst k4;have p:w2 (cd d a at_ m (k+1)=cd d a at_ m k++[ga d k at_ m (a.size-at_)]):=by show _=_;rw[s.out,o.out,w6 oO,w6 oO,w6 oO,xl rfl]
    have dn:w2 (∀W,af wr W->SW W x M cap hb a d):=λW j=>C.out.below (ae f.out.B j);clear s o C
    go_wp2_with(first
     |(with_reducible show y7 _ _ _ (⟨_,VS 169 _ _,_,_,_,_⟩::_) _ _;refine eZ rfl 169 _ _ rfl 32 168 Uk _ N2 rfl 3 dW A .i64 k k rfl rfl rfl D _ G.out ?_)
     |(with_reducible show y7 _ _ _ (⟨_,UC 168,_,_,_,_⟩::_) _ _;refine bj rfl 168 rfl _ iH ?_)
     |(with_reducible show y7 _ _ _ (⟨_,HZ 168 _ _,_,_,_,_⟩::_) _ _;refine bG rfl 168 _ _ rfl 168 _ _ rfl rfl dW rfl (fV _ _ _) ?_)
     |(with_reducible show y7 _ _ _ (⟨_,Op.load 179 _,_,_,_,_⟩::_) _ _;refine aP rfl 179 _ rfl _ S1 rfl ⟨w.heap.size,0,U⟩ [I J (at_:Int),I J (m:Int)] fu rfl (gE ((dx.out wr f.out.B).alloc _)) ?_)
     |(go_at_call 216;refine(ye k at_ m _ x M cap hb a d (dn.out _ (ax _ _)) c4 bf D).mono ?_;rintro e c8 ⟨rfl,cx⟩;have ds:=aa ((ax _ _).trans (cx.mono oS));clear cx;generalize ga d k at_ m (a.size-at_)=no at*;rw[no.St])
     |(at_builtin;refine l9 f.out (ah ds.out _) rfl _ _ rfl rfl _ _ no (by rfl) (qc _ no _ _ oS) (by have:=a7.out;omega) ?_;intro a9 H P))
    exact⟨⟨k+1,by omega,by go_num,by rw[p.out];exact P.out⟩,by simp[intOf];omega⟩
   have d6:((n:Int)==4)=R:=by rw[w4];omega
   have p:w2 (cd d a at_ m (k+1)=cd d a at_ m k):=by show _=_;rw[s.out,o.out,w6 O,w6 bq,w6 k3,w6 k4,A5]
   clear O bq k3 k4 s o C
   go_wp2_with(first
    |(with_reducible show y7 _ _ _ (⟨_,VS 169 _ _,_,_,_,_⟩::_) _ _;refine eZ rfl 169 _ _ rfl 32 168 Uk _ N2 rfl 3 dW A .i64 k k rfl rfl rfl D _ G.out ?_)
    |(with_reducible show y7 _ _ _ (⟨_,UC 168,_,_,_,_⟩::_) _ _;refine bj rfl 168 rfl _ iH ?_)
    |(with_reducible show y7 _ _ _ (⟨_,HZ 168 _ _,_,_,_,_⟩::_) _ _;refine bG rfl 168 _ _ rfl 168 _ _ rfl rfl dW rfl (fV _ _ _) ?_))
   exact⟨⟨k+1,by omega,by go_num,by rw[p.out];exact f.out.below (ax _ _)⟩,by simp[intOf];omega⟩
  ·have dv:k=32:=oO;have p:w2 (j9 w wr u5 (cd d a at_ m 32)):=by rw[<-dv];exact f.out.lift c9.out
   clear f C;go_wp2;go_ret;exact⟨_,rfl,p.out⟩
end
section
open Go.RowKit Go.WideMaps Go.Maps
def FZ (W:wR) (b n:Nat):Prop:=b<W.heap.size/\∀a,a<n->W.frozen? ⟨b,a,U⟩=R
theorem FZ.below {W a:wR} {b n:Nat} (h:FZ W b n) (hb:af W a):FZ a b n:=⟨x6 h.1 hb.size,λc d=>(hb.frozen h.1).trans (h.2 c d)⟩
theorem FZ.set {W:wR} {b n:Nat} (h:FZ W b n) (a:Addr) (u:xf):FZ (W.setCell a u) b n:=⟨by simpa using h.1,λc d=>by rw[World.frozen?_setCell];exact h.2 c d⟩
theorem FZ.grown {W c:wR} {b n:Nat} {row:xv Nat} (h:FZ W b n) (hg:W.grownBy c row) (e:gk b≠row):FZ c b n:=⟨x6 h.1 hg.size,λa d=>(hg.frozen_far ⟨b,a,U⟩ h.1 e).trans (h.2 a d)⟩
theorem FZ.new (W:wR) (c:Array xf) (a:TypeId) (b n:Nat) (hb:b=W.heap.size):FZ (W.alloc (.cells c a)) b n:=⟨by simp;omega,λd _=>World.frozen?_alloc_at _ _ _ _ hb⟩
theorem an.set {W:wR} {b:Nat} {d:List xf} (h:an W b d) (a:Nat) (u:xf) (g:a<d.length):an (W.setCell ⟨b,a,U⟩ u) b (d.set a u):=by
 refine⟨by simpa using h.1,λc f=>?_⟩;rw[List.length_set]at f;by_cases e:c=a
 ·subst e;rw[VQ W _ _ (h.2 c f)];simp[x4,g]
 ·rw[At W _ _ _ (λi=>e (by injection i with _ j;exact j.symm)),h.2 c f];simp[x4,Ne.symm e]
def oC (d:Nat->Nat->Nat) (a m x:Nat):Nat->Nat->Nat:=λb c=>if b=a/\c=m then x else d b c
theorem pg (b:Nat->Nat->Nat) (a m x:Nat):oC b a m x a m=x:=xl ⟨rfl,rfl⟩
theorem mJ (d:Nat->Nat->Nat) (a m x b c:Nat) (h:¬(b=a/\c=m)):oC d a m x b c=d b c:=w6 h
def rF (b:Nat->Nat->Nat) (a:Nat):Nat:=b a 0+b a 1+b a 2+b a 3+b a 4
theorem Pm {C:Nat->Nat->Nat} {a m x:Nat} (c:m<5) (d:x<C a m):rF (oC C a m x) a<rF C a:=by
 have b:m=0\/m=1\/m=2\/m=3\/m=4:=oO;unfold rF;rcases b with rfl|rfl|rfl|rfl|rfl<;>simp only[oC]<;>simp<;>omega
def uA (b:Nat->Nat->Nat) (L:Nat->List aF) (a:Nat):Prop:=∀m,m<5->b a m=1073741824\/∃c∈L m,c.cu b<=b a m
theorem E4 {b d:Nat->Nat->Nat} (h:∀a m,d a m<=b a m) (c:aF):c.cu d<=c.cu b:=Nat.add_le_add_left (h _ _) _
theorem P5 {C:Nat->Nat->Nat} {a m x:Nat} (d:x<=C a m):∀b c,oC C a m x b c<=C b c:=by
 intro b c;by_cases h:b=a/\c=m
 ·obtain⟨rfl,rfl⟩:=h;rw[pg];exact d
 ·rw[mJ _ _ _ _ _ _ h];exact w5 _
theorem uA.T4 {b:Nat->Nat->Nat} {L:Nat->List aF} {a m:Nat} (h:uA b L a) {c:aF} (j:c∈L m) (l:c.cu b<b a m):uA (oC b a m (c.cu b)) L a:=by
 intro f n;have i:=P5 (C:=b) (a:=a) (m:=m) (x:=c.cu b) (Wg l);by_cases e:f=m
 ·subst e;right;exact⟨c,j,by rw[pg];exact E4 i c⟩
 ·rw[mJ _ _ _ _ _ _ (λh=>e h.2)];rcases h f n with d|⟨g,d,k⟩
  ·exact .inl d
  ·exact .inr ⟨g,d,Nat.le_trans (E4 i g) k⟩
theorem yP {c d:Nat->Nat->Nat} {num at_ m:Nat} {b:aF} {n sz:Nat} {lg:Bool} (h:∀a m,at_<a->c a m=d a m) (hn:0<n) (hb:b.run=0\/at_<b.at_):dO c num at_ m b n sz lg=dO d num at_ m b n sz lg:=by
 have e1:aF.cu c ⟨num,-1,n,lg,sz+8* n,at_+n,m⟩=aF.cu d ⟨num,-1,n,lg,sz+8* n,at_+n,m⟩:=by
  unfold aF.cu;rw[h _ _ (by show at_<at_+n;omega)]
 unfold dO;rcases hb with hb|hb
 ·rw[xl (.inl hb),xl (.inl hb)]
 ·have e2:b.cu c=b.cu d:=by unfold aF.cu;rw[h _ _ hb]
  rw[e1,e2]
theorem tL {b:Nat->Nat->Nat} {num at_ m:Nat} {a:aF} {n sz:Nat} {lg:Bool} (hn:0<n) (hb:a.run=0\/at_<a.at_):at_<(dO b num at_ m a n sz lg).at_:=by
 unfold dO;split
 ·show at_<at_+n;omega
 ·rename_i h
  rcases hb with hb|hb
  ·exact absurd (.inl hb) h
  ·exact hb
theorem pE {a:Nat->Nat->Nat} {num at_ m:Nat}:∀k,(gj a num at_ m k).run=0\/at_<(gj a num at_ m k).at_
 |0=> .inl rfl
 |k+1=> .inr (tL oO (pE k))
theorem xj {b c:Nat->Nat->Nat} {num at_ m:Nat} (h:∀a m,at_<a->b a m=c a m):∀k,gj b num at_ m k=gj c num at_ m k
 |0=>rfl
 |k+1=>by
  show dO b _ _ _ _ _ _ _=dO c _ _ _ _ _ _ _;rw[yP h oO (pE k),xj h k]
theorem pV {a:Nat->Nat->Nat} {num at_ m K:Nat}:∀k,(eF a num at_ m K k).run=0\/at_<(eF a num at_ m K k).at_
 |0=>pE K
 |k+1=> .inr (tL oO (pV k))
theorem uS {b c:Nat->Nat->Nat} {num at_ m K:Nat} (h:∀a m,at_<a->b a m=c a m):∀k,eF b num at_ m K k=eF c num at_ m K k
 |0=>xj h K
 |k+1=>by
  show dO b _ _ _ _ _ _ _=dO c _ _ _ _ _ _ _;rw[yP h oO (pV k),uS h k]
theorem JW {b d:Nat->Nat->Nat} {c:x2} {at_ m n:Nat} (h:∀a m,at_<a->b a m=d a m):fa b c at_ m n=fa d c at_ m n:=by
 unfold fa ga;rw[uS h]
theorem p7 {C C':Nat->Nat->Nat} {b:x2} {at_ m:Nat} (h:∀a m,at_<a->C a m=C' a m):∀k,cd C b at_ m k=cd C' b at_ m k
 |0=>rfl
 |k+1=>by
  unfold cd;rw[p7 h k,JW h]
theorem Mm {a:Nat->Nat->Nat} {num at_ m K:Nat}:∀k,at_<=(eF a num at_ m K k).at_:=by
 have b:∀k,at_<=(gj a num at_ m k).at_:=λk=>by
  cases k with
  |zero=>exact w5 _
  |succ k=>exact Wg (tL oO (pE k))
 intro k;cases k with
 |zero=>exact b K
 |succ k=>exact Wg (tL oO (pV k))
theorem QV {d:Nat->Nat->Nat} {c:x2} {at_ m n:Nat} {b:aF} (a:b∈fa d c at_ m n):at_<=b.at_:=by
 unfold fa at a;split at a
 ·split at a
  ·rw[A2]at a;subst a;exact Nat.le_add_right _ _
  ·cases a
 split at a
 ·rw[A2]at a;subst a;exact w5 _
 split at a
 ·have key:∀k,b∈ee c at_ m n (cD m n) k->at_<=b.at_:=by
   intro k
   induction k with
   |zero=>intro h;cases h
   |succ k e=>
    intro h;unfold ee at h;rw[Dq]at h;rcases h with h|h
    ·exact e h
    ·unfold og at h;split at h
     ·rw[A2]at h;subst h;exact Nat.le_add_right _ _
     ·cases h
  exact key 32 a
 split at a
 ·rw[A2]at a;subst a;exact Mm _
 ·cases a
theorem Bm {b:Nat->Nat->Nat} {c:x2} {at_ m:Nat} {a:aF}:∀k,a∈cd b c at_ m k->at_<=a.at_:=by
 intro k
 induction k with
 |zero=>intro h;cases h
 |succ k d=>
  intro h;unfold cd at h;rw[Dq]at h;rcases h with h|h
  ·exact d h
  ·exact QV h
theorem Hr {a b:x2} {at_:Nat} (h:preB a at_ b=wP) (c:at_<=a.size):at_+b.size<=a.size:=by
 unfold preB U6 at h;rw[List.isPrefixOf_iff_prefix]at h;have d:=h.length_le;have e1:b.data.toList.length=b.size:=by simp
 have e2:(a.extract at_ a.size).data.toList.length=a.size-at_:=by
  show(a.extract at_ a.size).data.toList.length=_;rw[Array.length_toList];show(a.extract at_ a.size).size=_;rw[ByteArray.size_extract];omega
 omega
theorem Q7 {f:Nat->Nat->Nat} {b:x2} {at_ m n:Nat} (j:at_<b.size) (g:b.size<=4096) (d:m<5) {c:aF} (a:c∈fa f b at_ m n):okO b c:=by
 have l:=gU m;unfold fa at a;split at a
 ·split at a
  ·rename_i o e
   rw[A2]at a;subst a;exact⟨Hr e oO,d,by show ar m<=_;omega,by show 0<=_;omega⟩
  ·cases a
 split at a
 ·rw[A2]at a;subst a;exact⟨by show at_<=_;omega,oP _ _,by show ar m<=_;omega,by show 0<=_;omega⟩
 split at a
 ·have key:∀k,c∈ee b at_ m n (cD m n) k->okO b c:=by
   intro k
   induction k with
   |zero=>intro h;cases h
   |succ k i=>
    intro h;unfold ee at h;rw[Dq]at h;rcases h with h|h
    ·exact i h
    ·unfold og at h;split at h
     ·rename_i e
      rw[A2]at h;subst h;have p:=gU (cD m n);exact⟨Hr e.2 oO,d,by show ar m+ar (cD m n)<=_;omega,by show 0<=_;omega⟩
     ·cases h
  exact key 32 a
 split at a
 ·rw[A2]at a;subst a;unfold ga;exact vQ _ oO d g oO _ oO
 ·cases a
theorem sI {c:Nat->Nat->Nat} {a:x2} {at_ m:Nat} (d:at_<a.size) (e:a.size<=4096) (f:m<5) {b:aF}:∀k,b∈cd c a at_ m k->okO a b:=by
 intro k
 induction k with
 |zero=>intro h;cases h
 |succ k g=>
  intro h;unfold cd at h;rw[Dq]at h;rcases h with h|h
  ·exact g h
  ·exact Q7 d e f h
theorem uz:∀(c:List aF) (a k:Nat) (b:aF),c[a]?=gk b->k<7->(c.flatMap aF.aN)[a* 7+k]?=b.aN[k]?
 |[],a,k,b,h,d=>by simp at h
 |x::c,0,k,b,h,d=>by
  simp only[List.getElem?_cons_zero,Option.some.injEq]at h;subst h;rw[Vk,List.getElem?_append_left (by show 0* 7+k<7;omega)];simp
 |x::c,a+1,k,b,h,d=>by
  rw[Vk,List.getElem?_append_right (by show 7<=_;omega)];rw[<-uz c a k b (by simpa using h) d];congr 1;show(a+1)* 7+k-7=_;omega
structure SQ (w:wR) (b a cap hb:Nat) (c:x2) (C:Nat->Nat->Nat):Prop where
 S:SW w b a cap hb c C
 F:FZ w a (5* (c.size+1))
 n1:b≠a
 n2:hb≠b
 n3:hb≠a
theorem SQ.below {w W:wR} {c d cap hb:Nat} {a:x2} {b:Nat->Nat->Nat} (h:SQ w c d cap hb a b) (e:af w W):SQ W c d cap hb a b:=⟨h.S.below e,h.F.below e,h.n1,h.n2,h.n3⟩
theorem SQ.set {w:wR} {f g cap hb:Nat} {j:x2} {k:Nat->Nat->Nat} (h:SQ w f g cap hb j k) (a m x:Nat) (r:a<=j.size) (s:m<5) (o:x<=1073741824):
 SQ (w.setCell ⟨g,a* 5+m,U⟩ (I J (x:Int))) f g cap hb j (oC k a m x):=by
 have hs:=h.S;have i:∀d,(w.setCell ⟨g,a* 5+m,U⟩ (I J (x:Int))).cell? ⟨f,d,U⟩=w.cell? ⟨f,d,U⟩:=λd=>At w _ _ _ (λe=>h.n1 (by injection e with e1;exact e1.symm));refine⟨⟨by simpa using hs.lt,by rw[i];exact hs.c0,λd v p=>by rw[i];exact hs.ct d v p,by rw[i];exact hs.cc,by rw[i];exact hs.cm,by simpa using hs.cl,λb c l n=>?_,hs.hc,hs.hp,λb c=>?_⟩,h.F.set _ _,h.n1,h.n2,h.n3⟩
 ·by_cases e:b=a/\c=m
  ·obtain⟨rfl,rfl⟩:=e;rw[VQ w _ _ (hs.cz b c l n),pg]
  ·rw[At w _ _ _ (λq=>e (by injection q with _ t;omega)),hs.cz b c l n,mJ _ _ _ _ _ _ e]
 ·by_cases e:b=a/\c=m
  ·obtain⟨rfl,rfl⟩:=e;rw[pg];exact o
  ·rw[mJ _ _ _ _ _ _ e];exact hs.b b c
theorem SQ.grown {w W:wR} {c d cap hb:Nat} {i:x2} {j:Nat->Nat->Nat} (h:SQ w c d cap hb i j) {g:Nat} (hg:w.grownBy W (gk g)) (l:g≠c) (k:g≠d):SQ W c d cap hb i j:=by
 have hs:=h.S;have f:∀b,W.cell? ⟨c,b,U⟩=w.cell? ⟨c,b,U⟩:=λb=>hg.cell_far ⟨c,b,U⟩ hs.lt (λe=>l (by injection e with e;exact e.symm));have n:∀b,W.cell? ⟨d,b,U⟩=w.cell? ⟨d,b,U⟩:=λb=>hg.cell_far ⟨d,b,U⟩ hs.cl (λe=>k (by injection e with e;exact e.symm));exact⟨⟨x6 hs.lt hg.size,by rw[f];exact hs.c0,λb v o=>by rw[f];exact hs.ct b v o,by rw[f];exact hs.cc,by rw[f];exact hs.cm,x6 hs.cl hg.size,λa m p q=>by rw[n];exact hs.cz a m p q,hs.hc,hs.hp,hs.b⟩,h.F.grown hg (λe=>k (by injection e with e;exact e.symm)),h.n1,h.n2,h.n3⟩
theorem S6:laidOutB w1=wP:=oK
theorem Tc:(179:TypeId)<prog.types.size:=Ap oK
theorem SI:(match prog.underlying 179 with|some (.array _ _)|some (.struct _)=>wP|_=>R)=wP:=oK
theorem Dg:Keyed w1 179:=Keyed.of_law (deep_law_laid S6 (m:=3) oO Tc oK SI)
theorem Kz:prog.keyType 179=wP:=oK
theorem Ih:prog.cellsOf 179=2:=oK
theorem Nb:prog.cellsOf 3=1:=oK
theorem Rl:prog.types.size+1=(prog.types.size-2)+3:=by
 have h:2<=prog.types.size:=Ap oK;omega
theorem Mg (n:Nat) (a:Int) (h:(Lit.int .i64 a).wf=wP):prog.keyLits (n+1) 3 [.int .i64 a]=gk [.int .i64 a]:=by
 simp[Program.keyLits,underlying3,h]
def PB (a m:Nat):Lit:= .string (keyBytes [.int .i64 (a:Int),.int .i64 (m:Int)])
theorem yJ (a m:Nat) (f:a<=9223372036854775807) (g:m<=9223372036854775807):keyOf w1 179 (.agg #[.int .i64 (a:Int),.int .i64 (m:Int)])=gk (PB a m):=by
 have c:(Lit.int .i64 (a:Int)).wf=wP:=WalkArith.wf_i64 oO;have d:(Lit.int .i64 (m:Int)).wf=wP:=WalkArith.wf_i64 oO;unfold keyOf;have b:=S1;have e:(Value.agg #[.int .i64 (a:Int),.int .i64 (m:Int)]).formed w1 179=wP:=by simp[Value.formed,b,Ih]
 rw[b];simp only[Kz,e,Bool.and_self,if_true];rw[Rl];generalize prog.types.size-2=n;have hl:prog.keyLits (n+3) 179 [.int .i64 (a:Int),.int .i64 (m:Int)]=gk [.int .i64 (a:Int),.int .i64 (m:Int)]:=by
  unfold Program.keyLits;rw[b];dsimp only;rw[xl (by rw[Ih];exact⟨rfl,by kernel_rfl⟩)];simp only[List.mapM_cons,List.mapM_nil,Nb,List.drop_zero,List.drop_succ_cons,List.take_succ_cons,List.take_zero,Mg _ _ c,Mg _ _ d];rfl
 rw[show(Value.agg #[.int .i64 (a:Int),.int .i64 (m:Int)]).cells.toList=[.int .i64 (a:Int),.int .i64 (m:Int)]from rfl,hl];rfl
theorem Qa {a m b c:Nat} (g:a<=9223372036854775807) (i:m<=9223372036854775807) (d:b<=9223372036854775807) (e:c<=9223372036854775807) (h:PB a m=PB b c):a=b/\m=c:=by
 have f:=yJ a m g i;have j:=yJ b c d e;rw[h]at f;have d:=Dg.inj f j;have e:(a:Int)=b/\(m:Int)=c:=by simpa using d
 omega
def Ov (v:xf):xv (DataW xf×List MemPlace):=gk (.held v,[])
abbrev Jm:xf:=(aF.val ⟨0,0,0,R,0,0,0⟩)
theorem PQ (w:wR):(zeroValue 181).run w1 w= .ok Jm w:=oK
def dN (w:wR) (hb d:Nat) (c:Nat->Nat->xv aF):Prop:=
 ∃D:DataW xf,Maps.IsMap D/\w.ownsMap w1 179 Ov hb d D/\∀a m b,a<=4096->m<5->c a m=gk b->D.atKey (PB a m) (.held Jm)= .held b.val
theorem dN.below {w W:wR} {hb c:Nat} {a:Nat->Nat->xv aF} (h:dN w hb c a) (d:af w W):dN W hb c a:=by
 obtain⟨D,e,f,g⟩:=h;refine⟨D,e,?_,g⟩;obtain⟨i,clock,b,F,hs,j⟩:=f;exact⟨i,clock,(d.block hb ((Array.getElem?_eq_some_iff.1 b).1)).trans b,F,hs,j⟩
theorem dN.set {w:wR} {hb c:Nat} {b:Nat->Nat->xv aF} (h:dN w hb c b) {a:Addr} (g:hb≠a.block) (u:xf):dN (w.setCell a u) hb c b:=by
 obtain⟨D,d,e,f⟩:=h;exact⟨D,d,e.setCell g u,f⟩
theorem dN.ya {w:wR} {hb g i:Nat} {c d:Nat->Nat->xv aF} (h:dN w hb g c) (hc:g<=i) (j:∀a m b,a<=4096->m<5->d a m=gk b->c a m=gk b):dN w hb i d:=by
 obtain⟨D,k,l,n⟩:=h;exact⟨D,k,l.mono hc,λa m b e f o=>n a m b e f (j a m b e f o)⟩
theorem dN.lt {w:wR} {hb c:Nat} {a:Nat->Nat->xv aF} (h:dN w hb c a):hb<w.heap.size:=by
 obtain⟨D,d,b,e⟩:=h;exact b.lt
def yB (d:Nat->Nat->xv aF) (a m:Nat) (e:aF):Nat->Nat->xv aF:=λb c=>if b=a/\c=m then gk e else d b c
theorem dN.put {w:wR} {hb f:Nat} {g:Nat->Nat->xv aF} (h:dN w hb f g) (a m:Nat) (d:aF) (v:a<=4096) (x:m<5) (hc:f<maxLen):
 ∃b,(Instr.mapUpdate 173 (.map (gk hb)) (.agg #[I J (a:Int),I J (m:Int)]) d.val).run w1 w= .ok () b/\dN b hb (f+1) (yB g a m d)/\w.grownBy b (gk hb):=by
 obtain⟨D,i,n,o⟩:=h;have j:=yJ a m oO oO;obtain⟨b,u,p,q⟩:=n.update Dg underlying173 hc j (show Ov d.val=gk (.held d.val,[])from rfl);refine⟨b,u,⟨_,i.put _ _,p,λk l r s t c=>?_⟩,q⟩;by_cases e:k=a/\l=m
 ·obtain⟨rfl,rfl⟩:=e;rw[Maps.atKey_put_same i (Dg.key j)];unfold yB at c;rw[xl ⟨rfl,rfl⟩]at c;rw[Option.some.inj c]
 ·rw[Maps.atKey_put_other]
  ·refine o k l r s t ?_;unfold yB at c;rwa[w6 e]at c
  ·intro e2;exact e (Qa oO oO oO oO e2)
theorem dN.lookup {w:wR} {hb n:Nat} {c:Nat->Nat->xv aF} (h:dN w hb n c) (a m:Nat) (b:aF) (f:a<=4096) (g:m<5) (i:c a m=gk b):
 (Instr.lookup 173 (.map (gk hb)) (.agg #[I J (a:Int),I J (m:Int)]) R).run w1 w= .ok b.val w:=by
 obtain⟨D,p,j,k⟩:=h;have l:=yJ a m oO oO;obtain⟨v,ps,o,d⟩:=j.lookup Dg underlying173 (PQ w) (show Ov Jm=gk (.held Jm,[])from rfl) l;rw[k a m b f g i]at d;have e:v=b.val:=by
  exact DataW.held.inj (Prod.mk.inj (Option.some.inj d)).1
 rw[o,e]
end
theorem D4 (x y a:Nat) (b:a≠0):cmod (x^^^y) a=cmod x a^^^cmod y a:=by
 refine(ld _ _ _ ?_ ?_).symm
 ·have:=oQ (lL x a) (lL y a);rw[show x^^^cmod x a^^^(y^^^cmod y a)=(x^^^y)^^^(cmod x a^^^cmod y a)from by ac_rfl]at this;exact this
 ·have c:=mV x a b;have d:=mV y a b;have:=mO (cmod x a) (cmod y a) (bl a-1) oO oO;omega
theorem Ku (x y a:Nat) (b:a≠0) (h:iM a (x^^^y)):cmod x a=cmod y a:=by
 refine ld _ _ _ ?_ (mV _ _ b);have:=oQ h (lL x a);rw[show x^^^y^^^(x^^^cmod x a)=(x^^^x)^^^(y^^^cmod x a)from by ac_rfl]at this;simpa using this
theorem oE (x y a:Nat) (b:a≠0):cmod (cj (cmod x a) y) a=cmod (cj x y) a:=by
 refine(Ku _ _ _ b ?_).symm;rw[<-th];exact E8 _ (lL x a)
theorem Au (x y a:Nat) (b:a≠0):cmod (cj x (cmod y a)) a=cmod (cj x y) a:=by
 rw[pr,oE _ _ _ b,pr]
theorem xp (a b d:Nat) (c:bl b=d+1) (f:bl a<=d):cmod (2* a) b=if 2^d<=2* a then(2* a)^^^b else 2* a:=by
 have i:b≠0:=by intro h;subst h;rw[eJ]at c;omega
 have g:bl (2* a)<=d+1:=by
  by_cases h:a=0
  ·subst h;rw[Nat.mul_zero,eJ];omega
  ·rw[tD a h];omega
 split
 ·rename_i h
  have e:bl (2* a)=d+1:=by have:=(ja (2* a) d).2 h;omega
  refine(ld _ _ _ ?_ ?_).symm
  ·rw[<-Nat.xor_assoc];simp;exact Mi b
  ·have:=BM (2* a) b d e c;omega
 ·rename_i h
  exact kI _ _ (by have:=(bc (2* a) d).2 oO;omega)
def aA (s c a b:Nat):Nat:=if c=0 then a* b%s else cmod (cj a b) c
theorem Lw (A B a:Nat) (b:a≠0):cmod (cj A B) a=(if B%2=1 then cmod A a else 0)^^^cmod (cj (cmod (2* A) a) (B/2)) a:=by
 rw[fM,D4 _ _ _ b,oE _ _ _ b,qj];congr 1;split
 ·rfl
 ·exact kI 0 a (by rw[eJ];exact ic a b)
end Go.Proofs.YtmnlkganmgcpbaaGreatDoor
