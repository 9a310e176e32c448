import Derived.Test.YtmnlkganmgcpbaaGreatDoorQd3
import Derived.Maps.Views
import Derived.Maps.OwnSet
import Derived.DeepKeys4
import Derived.Maps.OwnOps
set_option maxRecDepth 100000
set_option maxHeartbeats 4000000
set_option linter.unusedVariables false
set_option linter.unusedSectionVars false
set_option linter.unusedSimpArgs false
namespace Go.Proofs.YtmnlkganmgcpbaaGreatDoor
section
open Go.RowKit
def bY (m n:Nat):Nat:=
 if 1<=n/\n<=(texts m).length then 1 else
 match m,n with
 |0,0=>3|1,0=>3|2,0=>3|4,0=>3|1,28=>3|4,15=>3
 |0,31=>4|1,31=>4|2,31=>4
 |0,28=>2|0,29=>2|0,30=>2|1,29=>2|1,30=>2|2,28=>2|2,29=>2|2,30=>2|3,31=>2|4,14=>2
 |_,_=>0
def modeF (m n:Nat):Nat:=
 match m,n with
 |0,0=>3|1,0=>3|2,0=>3|4,0=>3
 |0,28=>1|0,29=>2|0,30=>4|1,29=>2|1,30=>4|2,28=>1|2,30=>3
 |_,_=>0
def eM (m n:Nat):ByteArray:=if n=0 then ByteArray.empty else(texts m).getD (n-1) ByteArray.empty
abbrev oW (m n:Nat):List Value:=[.int .i64 ((bY m n:Nat):Int),.int .i64 ((modeF m n:Nat):Int),.string (eM m n)]
def oN (m:Nat):List Value:=(List.range 32).flatMap (oW m)
def Ni:List Value:=(List.range 5).flatMap oN
theorem Gb:eu.toList=Ni:=oK
theorem Aw {α:Type} (L:Nat) (f:Nat->List α) (b:∀i,(f i).length=L):∀(k i j:Nat),i<k->j<L->((List.range k).flatMap f)[i* L+j]?=(f i)[j]?:=by
 intro k
 induction k with
 |zero=>intro i j h;omega
 |succ k a=>
  intro i j c d;have hl:((List.range k).flatMap f).length=k* L:=by
   clear a c
   induction k with
   |zero=>simp
   |succ k a=>rw[List.range_succ,List.flatMap_append,List.length_append,a];simp[b,Nat.succ_mul]
  rw[List.range_succ,List.flatMap_append];by_cases h:i<k
  ·rw[List.getElem?_append_left (by rw[hl];calc i* L+j<i* L+L:=oO
    _=(i+1)* L:=by rw[Nat.succ_mul]
    _<=k* L:=Nat.mul_le_mul_right _ oO)]
   exact a i j h d
  ·obtain rfl:i=k:=oO;rw[List.getElem?_append_right (by rw[hl];omega),hl];simp
theorem Ai {α:Type} (L:Nat) (f:Nat->List α) (a:∀i,(f i).length=L) (k:Nat):((List.range k).flatMap f).length=k* L:=by
 induction k with
 |zero=>simp
 |succ k b=>rw[List.range_succ,List.flatMap_append,List.length_append,b];simp[a,Nat.succ_mul]
theorem qQ (m:Nat):(oN m).length=96:=Ai 3 (oW m) (λ_=>rfl) 32
theorem AR (m n j:Nat) (hn:n<32) (a:j<3):(oN m)[n* 3+j]?=(oW m n)[j]?:=Aw 3 (oW m) (λ_=>rfl) 32 n j hn a
theorem xx (m k:Nat) (a:m<5) (b:k<96):eu[m* 96+k]?=(oN m)[k]?:=by
 have h:=Aw 96 oN qQ 5 m k a b;rw[<-h,<-Array.getElem?_toList,Gb];rfl
theorem nf:eu.size=480:=by
 rw[<-Array.length_toList,Gb];exact Ai 96 oN qQ 5
theorem Dr (m n:Nat) (hn:n<32):(oN m).toArray.extract (n* 3) (n* 3+3)=(oW m n).toArray:=by
 apply Array.ext';rw[Array.toList_extract,List.extract_eq_take_drop];apply List.ext_getElem?;intro j;rw[List.getElem?_take];by_cases a:j<3
 ·rw[if_pos oO,List.getElem?_drop];exact AR m n j hn a
 ·rw[if_neg oO,List.getElem?_eq_none (by show 3<=j;omega)]
structure aA where
 num:Nat
 sec:Int
 run:Nat
 long:Bool
 size:Nat
 at_:Nat
 mode:Nat
deriving DecidableEq
def aA.aE (a:aA):List Value:=[.int .i64 (a.num:Int),.int .i64 a.sec,.int .i64 (a.run:Int),.bool a.long,.int .i64 (a.size:Int),.int .i64 (a.at_:Int),.int .i64 (a.mode:Int)]
def aA.val (a:aA):Value:= .agg a.aE.toArray
def aA.bK (C:Nat->Nat->Nat) (a:aA):Nat:=a.size+C a.at_ a.mode
structure SW (w:World) (c d cap hb:Nat) (p:ByteArray) (C:Nat->Nat->Nat):Prop where
 lt:c<w.heap.size
 c0:w.cell? ⟨c,0,none⟩=some (.string p)
 ct:∀i v,eu[i]?=some v->w.cell? ⟨c,1+i,none⟩=some v
 cc:w.cell? ⟨c,481,none⟩=some (.slice (some ⟨d,0,none⟩) (p.size+1) cap)
 cm:w.cell? ⟨c,482,none⟩=some (.map (some hb))
 cl:d<w.heap.size
 cz:∀a m,a<=p.size->m<5->w.cell? ⟨d,a* 5+m,none⟩=some (.int .i64 ((C a m:Nat):Int))
 hc:p.size+1<=cap
 hp:p.size<=4096
 b:∀a m,C a m<=1073741824
theorem SW.below {w W:World} {c d cap hb:Nat} {p:ByteArray} {C:Nat->Nat->Nat} (h:SW w c d cap hb p C) (b:Below w.heap.size w W):SW W c d cap hb p C:=
 ⟨Nat.lt_of_lt_of_le h.lt b.size,(b.cell h.lt).trans h.c0,λi v e=>(b.cell h.lt).trans (h.ct i v e),(b.cell h.lt).trans h.cc,(b.cell h.lt).trans h.cm,Nat.lt_of_lt_of_le h.cl b.size,
  λa m f g=>(b.cell h.cl).trans (h.cz a m f g),h.hc,h.hp,h.b⟩
theorem aA.cells (W:World) (a:aA) (t:TypeId) (b:Nat) (hb:b=W.heap.size):ak (W.alloc (.cells a.aE.toArray t)) b a.aE:=ak.new W a.aE.toArray t b hb
theorem sQ {W:World} {b:Nat} {a:aA} (h:ak W b a.aE):
 W.cell? ⟨b,0,none⟩=some (.int .i64 (a.num:Int))/\W.cell? ⟨b,1,none⟩=some (.int .i64 a.sec)/\W.cell? ⟨b,2,none⟩=some (.int .i64 (a.run:Int))/\W.cell? ⟨b,3,none⟩=some (.bool a.long)/\
 W.cell? ⟨b,4,none⟩=some (.int .i64 (a.size:Int))/\W.cell? ⟨b,5,none⟩=some (.int .i64 (a.at_:Int))/\W.cell? ⟨b,6,none⟩=some (.int .i64 (a.mode:Int)):=
 ⟨h.2 0 (by simp[aA.aE]),h.2 1 (by simp[aA.aE]),h.2 2 (by simp[aA.aE]),h.2 3 (by simp[aA.aE]),h.2 4 (by simp[aA.aE]),h.2 5 (by simp[aA.aE]),h.2 6 (by simp[aA.aE])⟩
theorem lG (b:aA) (w:World) (f g cap hb:Nat) (p:ByteArray) (C:Nat->Nat->Nat) (h:SW w f g cap hb p C) (i:b.at_<=p.size) (k:b.mode<5) (hs:b.size<=1073741824):
 Calls Tryz.prog 180 #[.pointer (some ⟨f,0,none⟩),b.val] w λe w'=>e= .returned (.int .i64 ((b.bK C:Nat):Int))/\Below w.heap.size w w':=by
 have r:=h.b b.at_ b.mode;have t:=h.hp;have y:=h.hc;obtain⟨num,d,run,long,size,at_,a⟩:=b;have l:Hid (aA.bK C ⟨num,d,run,long,size,at_,a⟩=size+C at_ a):=rfl
 have q:Hid (∀W,af (w.alloc (.cells (aA.aE ⟨num,d,run,long,size,at_,a⟩).toArray 181)) W->
  W.cell? ⟨w.heap.size,4,none⟩=some (.int .i64 (size:Int))/\W.cell? ⟨w.heap.size,5,none⟩=some (.int .i64 (at_:Int))/\W.cell? ⟨w.heap.size,6,none⟩=some (.int .i64 (a:Int))/\
  W.cell? ⟨f,481,none⟩=some (.slice (some ⟨g,0,none⟩) (p.size+1) cap)/\W.cell? ⟨g,at_* 5+a,none⟩=some (.int .i64 ((C at_ a:Nat):Int))):=by
  show∀W,_;intro W o;have j:=sQ ((ak.new w (aA.aE ⟨num,d,run,long,size,at_,a⟩).toArray 181 w.heap.size rfl).below o);have m:=(h.below (ax _ _)).below o;exact⟨j.2.2.2.2.1,j.2.2.2.2.2.1,j.2.2.2.2.2.2,m.cc,m.cz at_ a i k⟩
 have n:Hid (aA.val ⟨num,d,run,long,size,at_,a⟩= .agg #[.int .i64 (num:Int),.int .i64 d,.int .i64 (run:Int),.bool long,.int .i64 (size:Int),.int .i64 (at_:Int),.int .i64 (a:Int)]):=rfl;rw[n.out,l.out];clear h l n;generalize C at_ a=c at*;have u:at_<=4096:=by simp only at i;omega
 simp only at k hs i;have v:(at_:Int)<(p.size:Int)+1:=oO;have x:(a:Int)<5:=oO;have s:IntKind.i64.wrap ((size:Int)+(c:Int))=((size+c:Nat):Int):=by rw[aG _ oO oO];omega
 go_enter Tryz.func180,Tryz.ntmps180;go_wp2;refine yO (af (w.alloc (.cells (aA.aE ⟨num,d,run,long,size,at_,a⟩).toArray 181))) [1,2,3,4,5,6,7,8,9,10,11,12,13,14,15,16,17] (aj (Below.refl _ _)) ?_
 repeat refine zO q.out ?_
 refine ag ?_;go_wp2;go_ret;exact⟨rfl,(ax w _).trans ((aj (Below.refl _ _)).mono oS)⟩
def cW (C:Nat->Nat->Nat) (num at_ m:Nat) (a:aA) (n sz:Nat) (lg:Bool):aA:=
 if a.run=0\/aA.bK C ⟨num,-1,n,lg,sz+8* n,at_+n,m⟩<a.bK C then⟨num,-1,n,lg,sz+8* n,at_+n,m⟩else a
theorem mG:(Tryz.prog.info? 181).map (·.zero)=some (some (.agg #[.int .i64 0,.int .i64 0,.int .i64 0,.bool false,.int .i64 0,.int .i64 0,.int .i64 0])):=oK
theorem fH:(Tryz.prog.info? 181).map (·.size)=some 7:=oK
theorem aA.one (b:aA):∀v∈b.aE,v.oneCell'=true:=by
 intro v a;simp only[aA.aE,List.mem_cons,List.not_mem_nil,or_false]at a;rcases a with rfl|rfl|rfl|rfl|rfl|rfl|rfl<;>rfl
theorem aV {P:Program} {w:World} {g:Array Oper} {i:List Oper} {c:Oper} {a:Act} {Q:Exit->Act->World->Prop} (q:c.guard=none) (f:TypeId) (p x:Operand) (j:c.op= .store f p x)
 (t:TypeId) (d:Array Value) (b:List Value) (k:a.eval p= .pointer (some ⟨w.heap.size,0,none⟩)) (l:a.eval x= .agg b.toArray) (m:(P.info? f).map (·.size)=some b.length)
 (r:b.length=d.size) (n:∀v∈b,v.oneCell'=true)
 (o:wpList P g Q i (a.put c.dst undef) (w.alloc (.cells b.toArray t))):wpList P g Q (c::i) a (w.alloc (.cells d t)):=by
 refine bG q f p x j t w.heap.size 0 d b k l (heap_alloc_new _ _) m oO n ?_;have e:(splice d.toList 0 b).toArray=b.toArray:=by
  unfold splice;rw[List.take_zero,List.nil_append,List.drop_eq_nil_of_le (by simp[r]),List.append_nil]
 rw[e,World.setRow_alloc_new];exact o
theorem aa.cells {w:World} {g:Nat} {l:List Value} {t:TypeId} (h:aa w g l.toArray t):ak w g l:=by
 refine⟨au h,λi a=>?_⟩;rw[h.cell i (l.getD i undef) (by simp[List.getD,a])]
theorem aa.new (w:World) (a:Array Value) (t:TypeId) (b:Nat) (hb:b=w.heap.size):aa (w.alloc (.cells a t)) b a t:=by subst hb;exact heap_alloc_new _ _
theorem oQ {W:World} {b:Nat} {a:aA} (h:ak W b a.aE):∀j v,a.aE[j]?=some v->W.cell? ((⟨b,0,none⟩:Addr).add j)=some v:=by
 intro j v c;have hl:j<a.aE.length:=by
  rcases Nat.lt_or_ge j a.aE.length with d|d
  ·exact d
  ·rw[List.getElem?_eq_none d]at c;cases c
 rw[add_plain,Nat.zero_add,h.2 j hl];simp[List.getD,c]
theorem jz (a b:List Value) (h:b.length=a.length):(splice a.toArray.toList 0 b).toArray=b.toArray:=by
 unfold splice;rw[List.take_zero,List.nil_append,List.drop_eq_nil_of_le (by simp[h]),List.append_nil]
theorem tB {a:Act} {c:Oper} {W:World} {b:Nat} {q:Operand} (d:c.op= .load 181 q) (e:a.eval q= .pointer (some ⟨b,0,none⟩)) (x:aA) (h:ak W b x.aE):
 (execOp a.eval c).run Tryz.prog W= .ok (.value x.val) W:=by
 have f:=gI (P:=Tryz.prog) W 181 _ ⟨b,0,none⟩ x.aE Tryz.underlying181 rfl fH (oQ h);unfold execOp;simp only[d,e,Instr.loadAt,Instr.sureAddr,Sem.run_bind,Sem.run_pure,Result.andThen_ok,f];rfl
theorem DA (n sz num at_ m:Nat) (lg:Bool) (a:aA) (w:World) (f q cap hb B D b xb:Nat) (p:ByteArray) (C:Nat->Nat->Nat) (h:SW w f q cap hb p C)
 (E:ak w B [.int .i64 (num:Int)]) (hF:ak w D [.int .i64 (at_:Int),.int .i64 (m:Int)]) (g:ak w xb [.pointer (some ⟨f,0,none⟩)]) (hB:aa w b a.aE.toArray 181)
 (K:at_+n<=p.size) (L:m<5) (ad:sz<=100) (M:a.at_<=p.size) (N:a.mode<5) (O:a.size<=1073741824) (al:num<32) (am:a.run<=4096):
 Calls Tryz.prog 228 #[.int .i64 (n:Int),.int .i64 (sz:Int),.bool lg,.pointer (some ⟨B,0,none⟩),.pointer (some ⟨D,0,none⟩),.pointer (some ⟨b,0,none⟩),.pointer (some ⟨xb,0,none⟩)] w
  λe w'=>e= .returned (.tuple #[])/\aa w' b (cW C num at_ m a n sz lg).aE.toArray 181/\Below b w w':=by
 have ap:=h.hp;have c1:=E.2 0 oS;have P:=hF.2 0 oS;have Q:=hF.2 1 oS;have S:=g.2 0 oS;simp only[List.getD,List.getElem?_cons_zero,List.getElem?_cons_succ,Option.getD_some]at c1 P Q S;have T:=Lib.hid h;have i:=Lib.hid hB;have av:=Lib.hid g.1;have U:=Lib.hid g;have a1:IntKind.i64.wrap (8* (n:Int))=((8* n:Nat):Int):=by rw[aG _ oO oO];omega
 have a2:IntKind.i64.wrap ((sz:Int)+((8* n:Nat):Int))=((sz+8* n:Nat):Int):=by rw[aG _ oO oO];omega
 have a3:IntKind.i64.wrap ((at_:Int)+(n:Int))=((at_+n:Nat):Int):=by rw[aG _ oO oO];omega
 obtain⟨no,r⟩:∃no:aA,no=⟨num,-1,n,lg,sz+8* n,at_+n,m⟩:=⟨_,rfl⟩;have ab:=Lib.hid r;have o:Hid (cW C num at_ m a n sz lg=if a.run=0\/no.bK C<a.bK C then no else a):=by rw[r];rfl
 have x:Hid (no.at_<=p.size/\no.mode<5/\no.size<=1073741824):=by rw[r];exact⟨K,L,by show sz+8* n<=_;omega⟩
 clear h hB E hF g r;go_enter Tryz.func228,Tryz.ntmps228;go_wp2_with(first|(refine aO rfl 181 rfl _ mG ?_)|(refine aV rfl 181 _ _ rfl 181 _ no.aE rfl (by rw[ab.out];rfl) fH rfl no.one ?_))
 have c:Hid (∀W,af (w.alloc (.cells no.aE.toArray 181)) W->W.cell? ⟨b,2,none⟩=some (.int .i64 (a.run:Int))/\W.cell? ⟨xb,0,none⟩=some (.pointer (some ⟨f,0,none⟩))):=by
  show∀W,_;intro W d;have hB:=(i.out.below (ax w (.cells no.aE.toArray 181))).below d;have g:=((U.out.alloc (.cells no.aE.toArray 181)).below d).2 0 oS;exact⟨(sQ hB.cells).2.2.1,g⟩
 have s:Hid (∀W,af (w.alloc (.cells no.aE.toArray 181)) W->ak W w.heap.size no.aE):=λW d=>((aa.new w no.aE.toArray 181 _ rfl).cells).below d;have y:Hid (∀W,af (w.alloc (.cells no.aE.toArray 181)) W->ak W b a.aE):=λW d=>((i.out.below (ax w _)).below d).cells;have t:Hid (∀W,af (w.alloc (.cells no.aE.toArray 181)) W->SW W f q cap hb p C):=λW d=>(T.out.below (ax w _)).below d
 (try simp only[yQ,yU,yX,yY])
 by_cases F:a.run=0
 ·have V:((a.run:Int)==0)=true:=by rw[beq_iff_eq];omega
  have k:Hid (cW C num at_ m a n sz lg=no):=by show _=_;rw[o.out,if_pos (.inl F)]
  refine yO (af (w.alloc (.cells no.aE.toArray 181))) [1,2,3,4,5,6,8,9,0,7,10,0,11,12] (aj (Below.refl _ _)) ?_
  repeat refine zO c.out ?_
  repeat(first|refine' gu rfl ?_|refine' fD rfl (aj (Below.refl _ _)) ?_)
  repeat refine zO c.out ?_
  refine ag ?_;have j:Hid (aa (w.alloc (.cells no.aE.toArray 181)).drew b a.aE.toArray 181):=(i.out.below (ax w _)).below (aj (Below.refl _ _));have z:Hid (ak (w.alloc (.cells no.aE.toArray 181)).drew w.heap.size no.aE):=(aa.new w no.aE.toArray 181 _ rfl).cells.below (aj (Below.refl _ _));have u:Hid (Below w.heap.size w (w.alloc (.cells no.aE.toArray 181)).drew):=aj (ax w _);generalize(w.alloc (.cells no.aE.toArray 181)).drew=a0 at*;have ac:b<w.heap.size:=au i.out;go_wp2_with(first|(refine bk rfl 181 _ rfl _ Tryz.underlying181 rfl ⟨w.heap.size,0,none⟩ no.aE fH rfl (oQ z.out) ?_)|(refine bG rfl 181 _ _ rfl 181 b 0 a.aE.toArray no.aE rfl rfl j.out fH (by show 7<=7;omega) no.one ?_;rw[jz a.aE no.aE (by rfl)]))
  refine bodyPost_end (results_none rfl _ _ _) rfl ?_;rw[k.out];exact⟨rfl,j.out.set _,below_setRow (u.out.mono oO) (Nat.le_refl _) _⟩
 ·have V:((a.run:Int)==0)=false:=by rw[beq_eq_false_iff_ne];omega
  refine yO (af (w.alloc (.cells no.aE.toArray 181))) [1,2,3,4,5,6,8,9,0,7,10,0,11,12] (aj (Below.refl _ _)) ?_
  repeat first|refine zO c.out ?_|refine zX c.out ?_
  refine' zW rfl (λW d=>tB rfl rfl no (s.out W d)) ?_
  repeat first|refine zO c.out ?_|refine zX c.out ?_
  refine' zW rfl (λW d=>tB rfl rfl a (y.out W d)) ?_;refine zZ ?_;refine(lG no _ f q cap hb p C (t.out _ (aj (Below.refl _ _))) x.out.1 x.out.2.1 x.out.2.2).mono ?_;rintro e X ⟨rfl,H⟩;have A:Hid (af (w.alloc (.cells no.aE.toArray 181)) X):=(aj (Below.refl _ _)).trans H;clear H;refine⟨_,rfl,A.out,jO ?_⟩;refine zZ ?_;refine(lG a _ f q cap hb p C (t.out _ A.out) M N O).mono ?_;rintro e l ⟨rfl,J⟩;have v:Hid (af (w.alloc (.cells no.aE.toArray 181)) l):=ae A.out J;clear J;refine⟨_,rfl,v.out,jO ?_⟩;have j:Hid (aa l b a.aE.toArray 181):=(i.out.below (ax w (.cells no.aE.toArray 181))).below v.out;have z:Hid (ak l w.heap.size no.aE):=s.out l v.out;have u:Hid (Below w.heap.size w l):=(ax w _).trans (v.out.mono oS);have ac:b<w.heap.size:=au i.out;by_cases G:no.bK C<a.bK C
  ·have k:Hid (cW C num at_ m a n sz lg=no):=by show _=_;rw[o.out,if_pos (.inr G)]
   repeat first|refine zO c.out ?_|refine zX c.out ?_
   refine ag ?_;clear c s y t o;generalize no.bK C=Y at*;generalize a.bK C=Z at*;go_wp2_with(first|(refine bk rfl 181 _ rfl _ Tryz.underlying181 rfl ⟨w.heap.size,0,none⟩ no.aE fH rfl (oQ z.out) ?_)|(refine bG rfl 181 _ _ rfl 181 b 0 a.aE.toArray no.aE rfl rfl j.out fH (by show 7<=7;omega) no.one ?_;rw[jz a.aE no.aE (by rfl)]))
   refine bodyPost_end (results_none rfl _ _ _) rfl ?_;rw[k.out];exact⟨rfl,j.out.set _,below_setRow (u.out.mono oO) (Nat.le_refl _) _⟩
  ·have k:Hid (cW C num at_ m a n sz lg=a):=by show _=_;rw[o.out,if_neg (λh=>h.elim F G)]
   repeat first|refine zO c.out ?_|refine zX c.out ?_
   refine ag ?_;clear c s y t o;generalize no.bK C=Y at*;generalize a.bK C=Z at*;go_wp2;refine bodyPost_end (results_none rfl _ _ _) rfl ?_;rw[k.out];exact⟨rfl,j.out,u.out.mono oO⟩
def fj (C:Nat->Nat->Nat) (num at_ m:Nat):Nat->aA
 |0=>⟨0,0,0,false,1073741824,at_,m⟩
 |k+1=>cW C num at_ m (fj C num at_ m k) (31+k) (an m+16) true
def dM (C:Nat->Nat->Nat) (num at_ m K:Nat):Nat->aA
 |0=>fj C num at_ m K
 |k+1=>cW C num at_ m (dM C num at_ m K k) (1+k) (an m+5) false
def ff (C:Nat->Nat->Nat) (num at_ m left:Nat):aA:=dM C num at_ m (min left 2078-30) (min left 31)
def okO (p:ByteArray) (a:aA):Prop:=a.at_<=p.size/\a.mode<5/\a.size<=1073741824/\a.run<=4096
theorem fR (m:Nat):an m<=5:=by unfold an;split<;>omega
theorem Eh {C:Nat->Nat->Nat} {num at_ m:Nat} {a:aA} {n sz:Nat} {lg:Bool} {p:ByteArray} (h:okO p a) (b:at_+n<=p.size) (c:m<5) (d:sz<=100) (e:p.size<=4096):okO p (cW C num at_ m a n sz lg):=by
 unfold cW;split
 ·exact⟨b,c,by show sz+8* n<=_;omega,by show n<=_;omega⟩
 ·exact h
theorem vH {C:Nat->Nat->Nat} {num at_ m:Nat} {p:ByteArray} (b:at_<=p.size) (a:m<5) (c:p.size<=4096):∀k,at_+30+k<=p.size\/k=0->okO p (fj C num at_ m k)
 |0,_=>⟨b,a,Nat.le_refl _,by show 0<=_;omega⟩
 |k+1,h=>Eh (vH b a c k oO) oO a (by have:=fR m;omega) c
theorem sq {C:Nat->Nat->Nat} {num at_ m:Nat} {p:ByteArray} (K:Nat) (c:at_<=p.size) (a:m<5) (b:p.size<=4096) (d:at_+30+K<=p.size\/K=0):∀k,at_+k<=p.size->okO p (dM C num at_ m K k)
 |0,_=>vH c a b K d
 |k+1,h=>Eh (sq K c a b d k oO) oO a (by have:=fR m;omega) b
structure FS (w wr:World) (a b cap hb:Nat) (p:ByteArray) (C:Nat->Nat->Nat) (num at_ m:Nat):Prop where
 B:Below w.heap.size w wr
 S:SW wr a b cap hb p C
 X:ak wr w.heap.size [.pointer (some ⟨a,0,none⟩)]
 F:ak wr (w.heap.size+1) [.int .i64 (at_:Int),.int .i64 (m:Int)]
 N:ak wr (w.heap.size+2) [.int .i64 (num:Int)]
 Z:aa wr (w.heap.size+3) (aA.aE ⟨0,0,0,false,0,0,0⟩).toArray 181
structure BS (w wr:World) (a b cap hb:Nat) (p:ByteArray) (C:Nat->Nat->Nat) (num at_ m:Nat) (c:aA):Prop extends FS w wr a b cap hb p C num at_ m where
 O:aa wr (w.heap.size+4) c.aE.toArray 181
theorem FS.below {w wr a:World} {b c cap hb:Nat} {p:ByteArray} {C:Nat->Nat->Nat} {num at_ m:Nat} (h:FS w wr b c cap hb p C num at_ m) (hB:Below wr.heap.size wr a):FS w a b c cap hb p C num at_ m:=
 ⟨ae h.B hB,h.S.below hB,h.X.below hB,h.F.below hB,h.N.below hB,h.Z.below hB⟩
theorem oB {P:Program} {w:World} {d:Array Oper} {e:List Oper} {b:Oper} {a:Act} {Q:Exit->Act->World->Prop} (k:b.guard=none) (t:TypeId) (f:b.op= .alloc t)
 (c:Array Value) (i:(P.info? t).map (·.zero)=some (some (.agg c))) (g:Nat) (hg:g=w.heap.size)
 (j:wpList P d Q e (a.put b.dst (.pointer (some ⟨g,0,none⟩))) (w.alloc (.cells c t))):wpList P d Q (b::e) a w:=by
 subst hg;exact aO k t f c i j
theorem FS.start (w:World) (a b cap hb:Nat) (p:ByteArray) (C:Nat->Nat->Nat) (num at_ m:Nat) (c d e:TypeId) (h:SW w a b cap hb p C):
 FS w ((((w.alloc (.cells #[.pointer (some ⟨a,0,none⟩)] c)).alloc (.cells #[.int .i64 (at_:Int),.int .i64 (m:Int)] d)).alloc (.cells #[.int .i64 (num:Int)] e)).alloc (.cells (aA.aE ⟨0,0,0,false,0,0,0⟩).toArray 181)) a b cap hb p C num at_ m:=by
 refine⟨ah (ah (ah (ax _ _) _) _) _,(((h.below (ax _ _)).below (ax _ _)).below (ax _ _)).below (ax _ _),?_,?_,?_,aa.new _ _ _ _ oS⟩
 ·exact((ak.new w #[.pointer (some ⟨a,0,none⟩)] c _ rfl).alloc _).alloc _|>.alloc _
 ·exact((ak.new (w.alloc _) #[.int .i64 (at_:Int),.int .i64 (m:Int)] d (w.heap.size+1) oS).alloc _).alloc _
 ·exact(ak.new ((w.alloc _).alloc _) #[.int .i64 (num:Int)] e (w.heap.size+2) oS).alloc _
theorem ak.lower {W a:World} {b B:Nat} {c:List Value} (h:ak W b c) (hb:Below B W a) (hl:b<B):ak a b c:=
 ⟨Nat.lt_of_lt_of_le h.1 hb.size,λi d=>(hb.cell hl).trans (h.2 i d)⟩
theorem aa.lower {W a:World} {g B:Nat} {b:Array Value} {t:TypeId} (h:aa W g b t) (hb:Below B W a) (hl:g<B):aa a g b t:=(hb.block _ hl).trans h
theorem SW.lower {w W:World} {c e cap hb B:Nat} {p:ByteArray} {C:Nat->Nat->Nat} (h:SW w c e cap hb p C) (b:Below B w W) (d:c<B) (f:e<B):SW W c e cap hb p C:=
 ⟨Nat.lt_of_lt_of_le h.lt b.size,(b.cell d).trans h.c0,λi v g=>(b.cell (p:=⟨c,1+i,none⟩) d).trans (h.ct i v g),(b.cell d).trans h.cc,(b.cell d).trans h.cm,Nat.lt_of_lt_of_le h.cl b.size,
  λa m j k=>(b.cell f).trans (h.cz a m j k),h.hc,h.hp,h.b⟩
theorem BS.step {w wr a:World} {b c cap hb:Nat} {p:ByteArray} {C:Nat->Nat->Nat} {num at_ m:Nat} {f d:aA} (h:BS w wr b c cap hb p C num at_ m f) (g:b<w.heap.size) (i:c<w.heap.size)
 (e:aa a (w.heap.size+4) d.aE.toArray 181) (hB:Below (w.heap.size+4) wr a):BS w a b c cap hb p C num at_ m d:=
 ⟨⟨h.B.trans (hB.mono oO),h.S.lower hB oO oO,h.X.lower hB oO,h.F.lower hB oO,h.N.lower hB oO,h.Z.lower hB oO⟩,e⟩
theorem ve (num at_ m:Nat) (w:World) (a b cap hb:Nat) (p:ByteArray) (C:Nat->Nat->Nat) (h:SW w a b cap hb p C) (a4:at_<p.size) (r:m<5) (hn:num<32):
 Calls Tryz.prog 216 #[.pointer (some ⟨a,0,none⟩),.agg #[.int .i64 (at_:Int),.int .i64 (m:Int)],.int .i64 (num:Int)] w
  λe w'=>e= .returned (ff C num at_ m (p.size-at_)).val/\Below w.heap.size w w':=by
 have z:=h.hp;have A:=Lib.hid h;obtain⟨Y,B⟩:w.cell? ⟨a,0,none⟩=some (.string p)/\a<w.heap.size:=⟨h.c0,h.lt⟩;have N:b<w.heap.size:=h.cl;obtain⟨left,hl⟩:∃left,left=p.size-at_:=⟨_,rfl⟩;have a8:IntKind.i64.wrap ((p.size:Int)-(at_:Int))=(left:Int):=by rw[aG _ oO oO];omega
 have a9:at_+left<=p.size:=oO;have bb:1<=left:=oO;have bd:left<=4096:=oO;rw[<-hl];clear hl h;go_enter Tryz.func216,Tryz.ntmps216;go_wp2_with(refine oB rfl 181 rfl _ mG (w.heap.size+3) oS ?_)
 have u:Hid (FS w _ a b cap hb p C num at_ m):=FS.start w a b cap hb p C num at_ m 110 179 3 A.out;have D:((((w.alloc (.cells #[.pointer (some ⟨a,0,none⟩)] 110)).alloc (.cells #[.int .i64 (at_:Int),.int .i64 (m:Int)] 179)).alloc (.cells #[.int .i64 (num:Int)] 3)).alloc (.cells (aA.aE ⟨0,0,0,false,0,0,0⟩).toArray 181)).heap.size=w.heap.size+4:=by simp
 have O:=Lib.hid D;clear D;show Code.wp _ _ _ _ ((((w.alloc (.cells #[.pointer (some ⟨a,0,none⟩)] 110)).alloc (.cells #[.int .i64 (at_:Int),.int .i64 (m:Int)] 179)).alloc (.cells #[.int .i64 (num:Int)] 3)).alloc (.cells (aA.aE ⟨0,0,0,false,0,0,0⟩).toArray 181));generalize(((w.alloc (.cells #[.pointer (some ⟨a,0,none⟩)] 110)).alloc (.cells #[.int .i64 (at_:Int),.int .i64 (m:Int)] 179)).alloc (.cells #[.int .i64 (num:Int)] 3)).alloc (.cells (aA.aE ⟨0,0,0,false,0,0,0⟩).toArray 181)=i at*;have E:Hid (∀W,af i W->W.cell? ⟨w.heap.size,0,none⟩=some (.pointer (some ⟨a,0,none⟩))/\W.cell? ⟨a,0,none⟩=some (.string p)/\W.cell? ⟨w.heap.size+1,0,none⟩=some (.int .i64 (at_:Int))):=by
  show∀W,_;intro W Z;have g:=u.out.below Z;exact⟨g.X.2 0 oS,g.S.c0,g.F.2 0 oS⟩
 (try simp only[yQ,yU,yX,yY])
 clear Y A;refine yO (af i) [1,2,3,4,5,6,7,8,9] (aj (Below.refl _ _)) ?_
 repeat refine zO E.out ?_
 refine ag ?_;clear E;have t:Hid (FS w i.drew a b cap hb p C num at_ m):=u.out.below (aj (Below.refl _ _));have q:Hid (i.drew.heap.size=w.heap.size+4):=O.out;clear u O;generalize i.drew=F at*;have G:=t.out.F.2 0 oS;have H:=t.out.F.2 1 oS;simp only[List.getD,List.getElem?_cons_zero,List.getElem?_cons_succ,Option.getD_some]at G H;have be:=fR m;have P:Hid (∀k,fj C num at_ m (k+1)=cW C num at_ m (fj C num at_ m k) (31+k) (an m+16) true):=λk=>rfl;have al:Hid (∀K k,dM C num at_ m K (k+1)=cW C num at_ m (dM C num at_ m K k) (1+k) (an m+5) false):=λK k=>rfl;have am:Hid (ff C num at_ m left=dM C num at_ m (min left 2078-30) (min left 31)):=rfl;have Q:Hid (∀k,at_+30+k<=p.size\/k=0->okO p (fj C num at_ m k)):=vH oO r z;have ap:Hid (∀K,at_+30+K<=p.size\/K=0->∀k,at_+k<=p.size->okO p (dM C num at_ m K k)):=λK s=>sq K oO r z s;go_wp2_with(first|(go_at_call 132;refine(fi m _).mono ?_;rintro e w' ⟨rfl,S⟩;rw[S];clear S;generalize an m=J at*)|(refine oB rfl 181 rfl _ mG (w.heap.size+4) q.out.symm ?_)|(rw[<-q.out];refine aV rfl 181 _ _ rfl 181 _ (aA.aE ⟨0,0,0,false,1073741824,at_,m⟩) rfl rfl fH rfl (aA.one _) ?_))
 rw[q.out];have T:Hid (BS w (F.alloc (.cells (aA.aE ⟨0,0,0,false,1073741824,at_,m⟩).toArray 181)) a b cap hb p C num at_ m (fj C num at_ m 0)):=⟨t.out.below (ax _ _),aa.new _ _ _ _ q.out.symm⟩;clear q t G H;generalize F.alloc (.cells (aA.aE ⟨0,0,0,false,1073741824,at_,m⟩).toArray 181)=a5 at*;obtain⟨K,s⟩:∃K,K=min left 2078:=⟨_,rfl⟩;have ab:=Lib.hid s;have bf:K<=2078:=oO;have bi:K<=left:=oO;have av:min (left:Int) 2078=(K:Int):=oO;clear s;go_loopw [11] (λd wr=>∃k:Nat,(31+k<=K+1\/k=0)/\d= .int .i64 ((31+k:Nat):Int)/\Hid (BS w wr a b cap hb p C num at_ m (fj C num at_ m k))) (λd _=>K+1-(intOf d).toNat)
 case atStart=>exact⟨0,.inr rfl,rfl,T.out⟩
 case round=>
  clear T;obtain⟨k,ac,rfl,hB⟩:=hrel;by_cases a0:31+k<=K
  ·have c:Hid (okO p (fj C num at_ m k)):=Q.out k oO;have v:=Lib.hid (P.out k);go_wp2_with(go_at_call 228;(refine(DA (31+k) (J+16) num at_ m true (fj C num at_ m k) wr a b cap hb _ _ _ _ p C hB.out.S hB.out.N hB.out.F hB.out.X hB.out.O oO r oO c.out.1 c.out.2.1 c.out.2.2.1 hn c.out.2.2.2).mono ?_;rintro e ad ⟨rfl,n,o⟩;have x:=Lib.hid (hB.out.step B N n o);clear n o))
   refine⟨⟨k+1,by omega,by go_num,?_⟩,by simp[intOf];omega⟩;rw[v.out];exact x.out
  ·have U:k=K-30:=oO;have V:Hid (BS w wr a b cap hb p C num at_ m (dM C num at_ m (K-30) 0)):=by
    show BS _ _ _ _ _ _ _ _ _ _ _ (fj C num at_ m (K-30));rw[<-U];exact hB.out
   clear hB U Q P;have bo:(K:Int)<((31+k:Nat):Int):=oO;clear a0 ac;generalize((31+k:Nat):Int)=a6 at*;obtain⟨L,M⟩:∃L,L=min left 31:=⟨_,rfl⟩;have a1:=Lib.hid M;have bq:L<=31:=oO;have bs:L<=left:=oO;have bt:min (left:Int) 31=(L:Int):=oO;clear M;have a2:Hid (∀j,at_+j<=p.size->okO p (dM C num at_ m (K-30) j)):=ap.out (K-30) oO;go_wp2;clear av;go_loopw [12] (λd wr=>∃j:Nat,j<=L/\d= .int .i64 ((1+j:Nat):Int)/\Hid (BS w wr a b cap hb p C num at_ m (dM C num at_ m (K-30) j))) (λd _=>L+1-(intOf d).toNat)
   case atStart=>exact⟨0,by omega,rfl,V.out⟩
   case round=>
    clear V;obtain⟨j,a7,rfl,hB⟩:=hrel;by_cases bv:1+j<=L
    ·have c:Hid (okO p (dM C num at_ m (K-30) j)):=a2.out j oO;have v:=Lib.hid (al.out (K-30) j);go_wp2_with(go_at_call 228;(refine(DA (1+j) (J+5) num at_ m false (dM C num at_ m (K-30) j) wr a b cap hb _ _ _ _ p C hB.out.S hB.out.N hB.out.F hB.out.X hB.out.O oO r oO c.out.1 c.out.2.1 c.out.2.2.1 hn c.out.2.2.2).mono ?_;rintro e ad ⟨rfl,n,o⟩;have x:=Lib.hid (hB.out.step B N n o);clear n o))
     refine⟨⟨j+1,by omega,by go_num,?_⟩,by simp[intOf];omega⟩;rw[v.out];exact x.out
    ·have X:j=L:=oO;have l:Hid (BS w wr a b cap hb p C num at_ m (ff C num at_ m left)):=by
      have g:=hB.out;rw[X,a1.out,ab.out,<-am.out]at g;exact g
     clear hB X;obtain⟨f,y⟩:∃f,f=ff C num at_ m left:=⟨_,rfl⟩;rw[<-y]at l;have a3:=Lib.hid y;clear y;go_wp2_with(first|(refine bk rfl 181 _ rfl _ Tryz.underlying181 rfl ⟨w.heap.size+4,0,none⟩ f.aE fH rfl (oQ l.out.O.cells) ?_)|(refine bG rfl 181 _ _ rfl 181 (w.heap.size+3) 0 _ f.aE rfl rfl l.out.Z fH (by show 7<=7;omega) f.one ?_;rw[jz _ f.aE (by rfl)]))
     (try simp only[Exit.inBlock,Exit.then])
     refine bodyPost_ret (results_cell_row rfl _ _ (w.heap.size+3) 181 f.aE.toArray (0,0) _ rfl (l.out.Z.set _) Tryz.underlying181 rfl fH) rfl ?_;exact⟨by rw[<-a3.out];rfl,below_setRow l.out.B oO _⟩
def preB (p:ByteArray) (at_:Nat) (t:ByteArray):Bool:=Lib.hasPrefix (p.extract at_ p.size).data.toList t.data.toList
def mr (p:ByteArray) (at_ m n md s:Nat):List aA:=
 if bY md s=1/\preB p at_ (eM md s)=true then[⟨n,(s:Int),0,false,an m+an md,at_+(eM md s).size,m⟩]else[]
def optSK (p:ByteArray) (at_ m n md:Nat):Nat->List aA
 |0=>[]
 |k+1=>optSK p at_ m n md k++mr p at_ m n md k
def dZ (C:Nat->Nat->Nat) (p:ByteArray) (at_ m n:Nat):List aA:=
 if bY m n=1 then(if preB p at_ (eM m n)=true then[⟨n,-1,0,false,an m,at_+(eM m n).size,m⟩]else[])
 else if bY m n=2 then[⟨n,-1,0,false,an m,at_,modeF m n⟩]
 else if bY m n=3 then optSK p at_ m n (modeF m n) 32
 else if bY m n=4 then[ff C n at_ m (p.size-at_)]
 else[]
def bM (C:Nat->Nat->Nat) (p:ByteArray) (at_ m:Nat):Nat->List aA
 |0=>[]
 |k+1=>bM C p at_ m k++dZ C p at_ m k
theorem IQ (p:ByteArray) (at_ m n md s:Nat):(mr p at_ m n md s).length<=1:=by unfold mr;split<;>simp
theorem sI (p:ByteArray) (at_ m n md:Nat):∀k,(optSK p at_ m n md k).length<=k
 |0=>Nat.le_refl _
 |k+1=>by
  have a:=sI p at_ m n md k;have b:=IQ p at_ m n md k;unfold optSK;rw[List.length_append];omega
theorem JK (C:Nat->Nat->Nat) (p:ByteArray) (at_ m n:Nat):(dZ C p at_ m n).length<=32:=by
 have h:=sI p at_ m n (modeF m n) 32;unfold dZ;generalize optSK p at_ m n (modeF m n) 32=l at*;generalize ff C n at_ m (p.size-at_)=q;generalize preB p at_ (eM m n)=z;generalize bY m n=a;by_cases b:a=1
 ·rw[if_pos b];cases z<;>simp
 ·rw[if_neg b];by_cases c:a=2
  ·rw[if_pos c];simp
  ·rw[if_neg c];by_cases d:a=3
   ·rw[if_pos d];exact h
   ·rw[if_neg d];split<;>simp
theorem rP (C:Nat->Nat->Nat) (p:ByteArray) (at_ m:Nat):∀k,(bM C p at_ m k).length<=32* k
 |0=>Nat.le_refl _
 |k+1=>by
  have a:=rP C p at_ m k;have b:=JK C p at_ m k;unfold bM;rw[List.length_append];omega
theorem oV (m n:Nat):modeF m n<5:=by unfold modeF;split<;>omega
theorem j2:∀m,m<5->∀n,n<32->(eM m n).size<=2:=of_decide_eq_true oK
theorem Jy:(Tryz.prog.info? 181).map (λi=>(i.zero,i.size,i.bytes))=some (some (.agg #[.int .i64 0,.int .i64 0,.int .i64 0,.bool false,.int .i64 0,.int .i64 0,.int .i64 0]),7,56):=oK
structure jj (w wr:World) (v:Value) (l:List aA):Prop where
 B:af w wr
 O:wr.ownsRow w.heap.size 181 7 v l.length (l.flatMap aA.aE)
theorem jj.start (w wr:World) (h:af w wr):jj w wr (.slice none 0 0) []:=⟨h,World.ownsRow_nil _ _ _ _⟩
theorem jj.below {w wr W:World} {v:Value} {l:List aA} (h:jj w wr v l) (a:Below wr.heap.size wr W):jj w W v l:=⟨ae h.B a,ar h.O a⟩
theorem jj.lift {w b wr:World} {v:Value} {l:List aA} (h:jj b wr v l) (c:af w b):jj w wr v l:=by
 refine⟨ae c h.B,h.O.1,?_⟩;rcases h.O.2 with a|⟨g,cap,f,d,a,e⟩
 ·exact .inl a
 ·exact .inr ⟨g,cap,f,d,Nat.le_trans c.size a,e⟩
theorem xa {w wr W:World} {v:Value} {l:List aA} (h:jj w wr v l) (d:Below wr.heap.size wr W) (e:TypeId) (b:Addr) (c:Nat) (x:aA) (hc:∀j u,x.aE[j]?=some u->W.cell? (b.add j)=some u) (hl:l.length<=5000):
 ∃a w',(Builtin.append_ #[218,218] e #[v,.slice (some b) 1 c]).run Tryz.prog W= .ok a w'/\jj w w' a (l++[x])/\W.grownBy w' v.ownBlock/\(a.ownBlock=v.ownBlock\/a.ownBlock=some W.heap.size):=by
 obtain⟨i,m,q,r,s⟩:=info_parts Jy;have f:=ar h.O d;have hB:=ae h.B d;obtain⟨a,w',t,n,g,_,o⟩:=run_append_own_at (P:=Tryz.prog) W w.heap.size 218 e 181 i _ 7 56 Tryz.underlying218 m q r s rfl oO v l.length _ f b 1 c x.aE (by rfl) hc (aA.one x) oM oO hB.size;refine⟨a,w',t,⟨hB.grown g hB.size (λk p=>(f.lt k p).1),?_⟩,g,o⟩;rw[List.length_append,List.flatMap_append,List.flatMap_singleton];exact n
theorem kt {f:Array Oper} {g:List Oper} {b:Oper} {a:Act} {Q:Exit->Act->World->Prop} {w wr W:World} {v:Value} {l:List aA} (h:jj w wr v l) (i:Below wr.heap.size wr W) (q:b.guard=none) (s y:Operand)
 (k:b.op= .call {callee:= .builtin .append,args:=#[s,y],argTypes:=#[218,218]}) (hs:a.eval s=v) (e:Addr) (c:Nat) (x:aA) (m:a.eval y= .slice (some e) 1 c)
 (hc:∀j u,x.aE[j]?=some u->W.cell? (e.add j)=some u) (hl:l.length<=5000) (n:∀d w',Hid (jj w w' d (l++[x]))->wpList Tryz.prog f Q g (a.put b.dst d) w'):wpList Tryz.prog f Q (b::g) a W:=by
 refine wpList_plain q λK o=>?_;obtain⟨d,w',r,p,t⟩:=xa h i b.type e c x hc hl;unfold Oper.wp execOp;simp only[k,resolve,invoke,builtin,Sem.run_bind,Sem.run_pure,Result.andThen_ok,List.map_toArray,List.map_cons,List.map_nil,hs,m,r];exact o _ _ (n d w' p)
theorem wD {d:Oper} {a:Act} {w wr W:World} {v:Value} {l:List aA} (h:jj w wr v l) (f:Below wr.heap.size wr W) (s y:Operand)
 (g:d.op= .call {callee:= .builtin .append,args:=#[s,y],argTypes:=#[218,218]}) (hs:a.eval s=v) (e:Addr) (c:Nat) (x:aA) (i:a.eval y= .slice (some e) 1 c)
 (hc:∀j u,x.aE[j]?=some u->W.cell? (e.add j)=some u) (hl:l.length<=5000):∃b w',(execOp a.eval d).run Tryz.prog W= .ok (.value b) w'/\jj w w' b (l++[x])/\W.grownBy w' v.ownBlock/\(b.ownBlock=v.ownBlock\/b.ownBlock=some W.heap.size):=by
 obtain⟨b,w',n,k,m⟩:=xa h f d.type e c x hc hl;refine⟨b,w',?_,k,m⟩;unfold execOp;simp only[g,resolve,invoke,builtin,Sem.run_bind,Sem.run_pure,Result.andThen_ok,List.map_toArray,List.map_cons,List.map_nil,hs,i,n]
theorem wg {f:Array Oper} {S:World->Prop} {K:Act->World->Prop} {r:List (Bool×Nat×Oper)} {k:Nat} {d:Oper} {a:Act} {w wr W:World} {v:Value} {l:List aA} (h:jj w wr v l) (i:Below wr.heap.size wr W)
 (z:Region.wanted d (yielded f a.tmps)=true) (s y:Operand)
 (m:d.op= .call {callee:= .builtin .append,args:=#[s,y],argTypes:=#[218,218]}) (hs:a.eval s=v) (e:Addr) (c:Nat) (x:aA) (n:a.eval y= .slice (some e) 1 c)
 (hc:∀j u,x.aE[j]?=some u->W.cell? (e.add j)=some u) (hl:l.length<=5000)
 (o:∀b w',jj w w' b (l++[x])->W.grownBy w' v.ownBlock->(b.ownBlock=v.ownBlock\/b.ownBlock=some W.heap.size)->S w'/\bB Tryz.prog f S K r (a.put d.dst b) w'):bB Tryz.prog f S K ((true,k,d)::r) a W:=by
 obtain⟨b,w',A,p,q,t⟩:=wD h i s y m hs e c x n hc hl;have g:=o b w' p q t;exact gR z A g.1 g.2
theorem gK {W:World} {b:Nat} {a:List Value} (h:ak W b a):∀j v,a[j]?=some v->W.cell? ((⟨b,0,none⟩:Addr).add j)=some v:=by
 intro j v c;have hl:j<a.length:=by
  rcases Nat.lt_or_ge j a.length with d|d
  ·exact d
  ·rw[List.getElem?_eq_none d]at c;cases c
 rw[add_plain,Nat.zero_add,h.2 j hl];simp[List.getD,c]
theorem aA.Mv (a:aA):a.val= .agg #[.int .i64 (a.num:Int),.int .i64 a.sec,.int .i64 (a.run:Int),.bool a.long,.int .i64 (a.size:Int),.int .i64 (a.at_:Int),.int .i64 (a.mode:Int)]:=rfl
theorem oc (W:World) (x:aA) (t:TypeId) (b:Nat) (hb:b=W.heap.size):∀j u,x.aE[j]?=some u->(W.alloc (.cells x.aE.toArray t)).cell? ((⟨b,0,none⟩:Addr).add j)=some u:=oQ (aA.cells W x t b hb)
theorem sO {a:Act} {e:Oper} {W:World} {b g cap hb:Nat} {p:ByteArray} {C:Nat->Nat->Nat} {q:Operand} (h:SW W b g cap hb p C) (i:e.op= .load 169 q) (f m:Nat) (k:a.eval q= .pointer (some ⟨b,f,none⟩)) (l:f=1+m* 96) (n:m<5):
 (execOp a.eval e).run Tryz.prog W= .ok (.value (.agg (oN m).toArray)) W:=by
 subst l
 have o:=gI (P:=Tryz.prog) W 169 _ ⟨b,1+m* 96,none⟩ (oN m) Tryz.underlying169 rfl (by rw[qQ];kernel_rfl) (λj v c=>by
  have hl:j<96:=by
   rcases Nat.lt_or_ge j 96 with d|d
   ·exact d
   ·rw[List.getElem?_eq_none (by rw[qQ];exact d)]at c;cases c
  rw[add_plain,Nat.add_assoc];refine h.ct _ _ ?_
  rw[xx m j n hl];exact c)
 unfold execOp;simp only[i,k,Instr.loadAt,Instr.sureAddr,Sem.run_bind,Sem.run_pure,Result.andThen_ok,o]
theorem kb {a:Act} {e:Oper} {W:World} (t:TypeId) (d:TypeDesc) (f:Tryz.prog.underlying t=some d) (g:aggD d=true) {q:Operand} (i:e.op= .load t q) (b:Nat) (c:List Value) (j:(Tryz.prog.info? t).map (·.size)=some c.length) (k:a.eval q= .pointer (some ⟨b,0,none⟩)) (h:ak W b c):
 (execOp a.eval e).run Tryz.prog W= .ok (.value (.agg c.toArray)) W:=by
 have l:=gI (P:=Tryz.prog) W t d ⟨b,0,none⟩ c f g j (gK h);unfold execOp;simp only[i,k,Instr.loadAt,Instr.sureAddr,Sem.run_bind,Sem.run_pure,Result.andThen_ok,l]
theorem ak.grown {W a:World} {b:Nat} {c:List Value} {row:Option Nat} (h:ak W b c) (hg:W.grownBy a row) (f:∀q,row=some q->q≠b):ak a b c:=
 ⟨Nat.lt_of_lt_of_le h.1 hg.size,λi d=>(hg.cell_far ⟨b,i,none⟩ h.1 (λe=>f b e.symm rfl)).trans (h.2 i d)⟩
theorem gn:(Tryz.prog.info? 168).map (·.zero)=some (some (.agg #[.int .i64 0,.int .i64 0,.string ByteArray.empty])):=oK
theorem j3:(Tryz.prog.info? 179).map (·.zero)=some (some (.agg #[.int .i64 0,.int .i64 0])):=oK
theorem dI:(Tryz.prog.info? 179).map (·.size)=some 2:=oK
theorem fU (a b:Int):∀v∈[Value.int .i64 a,.int .i64 b],v.oneCell'=true:=by
 intro v c;simp only[List.mem_cons,List.not_mem_nil,or_false]at c;rcases c with rfl|rfl<;>rfl
theorem CG (at_ m:Nat) (w:World) (t K cap hb:Nat) (p:ByteArray) (C:Nat->Nat->Nat) (h:SW w t K cap hb p C) (c3:at_<p.size) (a9:m<5):
 Calls Tryz.prog 179 #[.pointer (some ⟨t,0,none⟩),.agg #[.int .i64 (at_:Int),.int .i64 (m:Int)]] w
  λe w'=>∃v,e= .returned v/\jj w w' v (bM C p at_ m 32):=by
 have d0:=h.hp;have c4:=Lib.hid h;have d7:(m:Int)<5:=oO;have d8:at_<=4096:=oO;have d9:at_<=p.size:=oO;have bb:Hid (ak (w.alloc (.cells #[.int .i64 (at_:Int),.int .i64 (m:Int)] 179)) w.heap.size [.int .i64 (at_:Int),.int .i64 (m:Int)]):=ak.new w #[.int .i64 (at_:Int),.int .i64 (m:Int)] _ _ rfl;have bo:Hid (SW (w.alloc (.cells #[.int .i64 (at_:Int),.int .i64 (m:Int)] 179)) t K cap hb p C):=h.below (ax _ _);have b6:Hid (af w (w.alloc (.cells #[.int .i64 (at_:Int),.int .i64 (m:Int)] 179))):=ax _ _;clear h c4;go_enter Tryz.func179,Tryz.ntmps179;go_wp2;generalize w.alloc (.cells #[.int .i64 (at_:Int),.int .i64 (m:Int)] 179)=E at*;have a1:Hid (∀W,af E W->W.cell? ⟨t,0,none⟩=some (.string p)/\W.cell? ⟨w.heap.size,0,none⟩=some (.int .i64 (at_:Int))/\W.cell? ⟨w.heap.size,1,none⟩=some (.int .i64 (m:Int))):=by
  show∀W,_;intro W d;have b2:=bb.out.below d;exact⟨(bo.out.below d).c0,b2.2 0 oS,b2.2 1 oS⟩
 refine yO (af E) [1,2,3,4,5,6,7,8] (aj (Below.refl _ _)) ?_
 repeat refine zO a1.out ?_
 refine ag ?_;have bd:=(a1.out E.drew (aj (Below.refl _ _))).2.2;go_wp2_with(go_at_call 132;refine(fi m _).mono ?_;rintro e w' ⟨rfl,f⟩;rw[f];clear f)
 have z:Hid (∀W,af E.drew W->W.cell? ⟨t,0,none⟩=some (.string p)/\W.cell? ⟨w.heap.size,0,none⟩=some (.int .i64 (at_:Int))/\W.cell? ⟨w.heap.size,1,none⟩=some (.int .i64 (m:Int))):=λW d=>a1.out W (ae (aj (Below.refl _ _)) d);have bq:Hid (SW E.drew t K cap hb p C):=bo.out.below (aj (Below.refl _ _));have b7:Hid (af w E.drew):=aj b6.out;have b8:Hid (ak E.drew w.heap.size [.int .i64 (at_:Int),.int .i64 (m:Int)]):=bb.out.below (aj (Below.refl _ _));clear bb bo b6 a1 bd;generalize E.drew=u at*;refine yO (af u) [1,2,3,4,5,6,7,8] (aj (Below.refl _ _)) ?_;refine zO z.out ?_;refine zO z.out ?_;refine zO z.out ?_;refine zO z.out ?_;refine zO z.out ?_;refine zO z.out ?_;refine' zV rfl (λW d=>sO (bq.out.below d) rfl _ m rfl oO a9) ?_
 repeat refine zO z.out ?_
 refine ag ?_;have A:Hid (SW u.drew t K cap hb p C):=bq.out.below (aj (Below.refl _ _));have c8:Hid (af w u.drew):=aj b7.out;have b9:Hid (ak u.drew w.heap.size [.int .i64 (at_:Int),.int .i64 (m:Int)]):=b8.out.below (aj (Below.refl _ _));have bs:Hid (∀W,af u.drew W->W.cell? ⟨w.heap.size,0,none⟩=some (.int .i64 (at_:Int))/\W.cell? ⟨w.heap.size,1,none⟩=some (.int .i64 (m:Int))):=λW d=>(z.out W (ae (aj (Below.refl _ _)) d)).2;have dx:Hid (∀W,af u.drew W->ak W w.heap.size [.int .i64 (at_:Int),.int .i64 (m:Int)]):=λW d=>b9.out.below d;have ea:Hid (w.heap.size<u.drew.heap.size):=World.block_lt_of_cell? _ _ (bs.out u.drew (Below.refl _ _)).1;clear bq b7 z b8 b9;generalize u.drew=x at*;obtain⟨y,ca⟩:∃y,Hid (y=(oN m).toArray):=⟨_,rfl⟩;rw[<-ca.out];obtain⟨q,Z⟩:∃q,Hid (q=p.extract at_ p.size):=⟨_,rfl⟩;rw[<-Z.out];go_wp2;go_loopw [5,31] (λa2 L wr=>∃k:Nat,k<=32/\L= .int .i64 k/\Hid (jj x wr a2 (bM C p at_ m k))) (λ_ L _=>32-(intOf L).toNat)
 case atStart=>exact⟨0,Nat.zero_le _,rfl,jj.start _ _ (Below.refl _ _)⟩
 case round=>
  obtain⟨k,d1,rfl,a⟩:=hrel;by_cases B:k<32
  ·have F:Hid (y.extract (k* 3) (k* 3+3)=(oW m k).toArray):=by show _=_;rw[ca.out];exact Dr m k B
   have o:Hid (bM C p at_ m (k+1)=bM C p at_ m k++dZ C p at_ m k):=rfl
   have i:Hid (dZ C p at_ m k=if bY m k=1 then(if preB p at_ (eM m k)=true then[⟨k,-1,0,false,an m,at_+(eM m k).size,m⟩]else[])
    else if bY m k=2 then[⟨k,-1,0,false,an m,at_,modeF m k⟩]
    else if bY m k=3 then optSK p at_ m k (modeF m k) 32
    else if bY m k=4 then[ff C k at_ m (p.size-at_)]
    else[]):=rfl
   have a3:=Lib.hid (rP C p at_ m k);have c9:=j2 m a9 k B;have bt:=oV m k;obtain⟨a4,b3⟩:=bs.out wr a.out.B;have b4:w.heap.size<wr.heap.size:=World.block_lt_of_cell? _ _ a4;obtain⟨g,O⟩:∃g,g=bY m k:=⟨_,rfl⟩;obtain⟨md,a6⟩:∃md,md=modeF m k:=⟨_,rfl⟩;obtain⟨b,a7⟩:∃b,b=eM m k:=⟨_,rfl⟩;rw[<-O,<-a6,<-a7]at i;unfold oW at F;rw[<-O,<-a6,<-a7]at F;rw[<-a6]at bt;rw[<-a7]at c9;clear O a6 a7;by_cases M:g=1
   ·subst M;cases n:preB p at_ b with
    |true=>
     obtain⟨no,s⟩:∃no:aA,no=⟨k,-1,0,false,an m,at_+b.size,m⟩:=⟨_,rfl⟩;have ab:=Lib.hid s;have l:Hid (bM C p at_ m (k+1)=bM C p at_ m k++[no]):=by show _=_;rw[o.out,i.out,if_pos rfl,n,if_pos rfl,s]
     have P:Hid (Lib.hasPrefix q.data.toList b.data.toList=true):=by show _=_;rw[Z.out];exact n
     have c5:IntKind.i64.wrap ((at_:Int)+(b.size:Int))=((at_+b.size:Nat):Int):=by rw[aG _ oO oO];omega
     clear n o i A s
     go_wp2_with(first
      |(go_at_call 215;refine(Tryz.strings_HasPrefix _ _ _).mono ?_;rintro e w' ⟨rfl,f⟩;rw[f,P.out];clear f)
      |(with_reducible show wpList _ _ _ (⟨_,Op.index 169 _ _,_,_,_,_⟩::_) _ _;refine dT rfl 169 _ _ rfl 32 168 Tryz.underlying169 _ Tryz.underlying168 rfl 3 du y .i64 k k rfl rfl rfl B _ F.out ?_)
      |(with_reducible show wpList _ _ _ (⟨_,Op.alloc 168,_,_,_,_⟩::_) _ _;refine aO rfl 168 rfl _ gn ?_)
      |(with_reducible show wpList _ _ _ (⟨_,Op.alloc 179,_,_,_,_⟩::_) _ _;refine aO rfl 179 rfl _ j3 ?_)
      |(with_reducible show wpList _ _ _ (⟨_,Op.store 168 _ _,_,_,_,_⟩::_) _ _;refine aV rfl 168 _ _ rfl 168 _ _ rfl rfl du rfl (eZ _ _ _) ?_)
      |(with_reducible show wpList _ _ _ (⟨_,Op.store 179 _ _,_,_,_,_⟩::_) _ _;refine aV rfl 179 _ _ rfl 179 _ [_,_] rfl rfl dI rfl (fU _ _) ?_)
      |(with_reducible show wpList _ _ _ (⟨_,Op.load 179 _,_,_,_,_⟩::_) _ _;refine bk rfl 179 _ rfl _ Tryz.underlying179 rfl _ [_,_] dI rfl (gK (ak.new _ #[_,_] _ _ oS)) ?_)
      |(at_builtin;refine kt a.out (ah (ah (ax _ _) _) _) rfl _ _ rfl rfl _ _ no (by rfl) (by rw[ab.out];exact oc _ ⟨k,-1,0,false,an m,at_+b.size,m⟩ _ _ oS) (by have:=a3.out;omega) ?_;intro a5 G N))
     exact⟨⟨k+1,by omega,by go_num,by rw[l.out];exact N.out⟩,by simp[intOf];omega⟩
    |false=>
     have l:Hid (bM C p at_ m (k+1)=bM C p at_ m k):=by show _=_;rw[o.out,i.out,if_pos rfl,n,if_neg oS,List.append_nil]
     have P:Hid (Lib.hasPrefix q.data.toList b.data.toList=false):=by show _=_;rw[Z.out];exact n
     clear n o i A
     go_wp2_with(first
      |(go_at_call 215;refine(Tryz.strings_HasPrefix _ _ _).mono ?_;rintro e w' ⟨rfl,f⟩;rw[f,P.out];clear f)
      |(with_reducible show wpList _ _ _ (⟨_,Op.index 169 _ _,_,_,_,_⟩::_) _ _;refine dT rfl 169 _ _ rfl 32 168 Tryz.underlying169 _ Tryz.underlying168 rfl 3 du y .i64 k k rfl rfl rfl B _ F.out ?_)
      |(with_reducible show wpList _ _ _ (⟨_,Op.alloc 168,_,_,_,_⟩::_) _ _;refine aO rfl 168 rfl _ gn ?_)
      |(with_reducible show wpList _ _ _ (⟨_,Op.store 168 _ _,_,_,_,_⟩::_) _ _;refine aV rfl 168 _ _ rfl 168 _ _ rfl rfl du rfl (eZ _ _ _) ?_))
     exact⟨⟨k+1,by omega,by go_num,by rw[l.out];exact a.out.below (ax _ _)⟩,by simp[intOf];omega⟩
   have c6:((g:Int)==1)=false:=by rw[beq_eq_false_iff_ne];omega
   by_cases be:g=2
   ·subst be;obtain⟨no,s⟩:∃no:aA,no=⟨k,-1,0,false,an m,at_,md⟩:=⟨_,rfl⟩;have ab:=Lib.hid s;have l:Hid (bM C p at_ m (k+1)=bM C p at_ m k++[no]):=by show _=_;rw[o.out,i.out,if_neg oO,if_pos rfl,s]
    clear o i A s
    go_wp2_with(first
     |(with_reducible show wpList _ _ _ (⟨_,Op.index 169 _ _,_,_,_,_⟩::_) _ _;refine dT rfl 169 _ _ rfl 32 168 Tryz.underlying169 _ Tryz.underlying168 rfl 3 du y .i64 k k rfl rfl rfl B _ F.out ?_)
     |(with_reducible show wpList _ _ _ (⟨_,Op.alloc 168,_,_,_,_⟩::_) _ _;refine aO rfl 168 rfl _ gn ?_)
     |(with_reducible show wpList _ _ _ (⟨_,Op.store 168 _ _,_,_,_,_⟩::_) _ _;refine aV rfl 168 _ _ rfl 168 _ _ rfl rfl du rfl (eZ _ _ _) ?_)
     |(at_builtin;refine kt a.out (ah (ax _ _) _) rfl _ _ rfl rfl _ _ no (by rfl) (by rw[ab.out];exact oc _ ⟨k,-1,0,false,an m,at_,md⟩ _ _ oS) (by have:=a3.out;omega) ?_;intro a5 G N))
    exact⟨⟨k+1,by omega,by go_num,by rw[l.out];exact N.out⟩,by simp[intOf];omega⟩
   have d2:((g:Int)==2)=false:=by rw[beq_eq_false_iff_ne];omega
   by_cases bf:g=3
   ·subst bf;have l:Hid (bM C p at_ m (k+1)=bM C p at_ m k++optSK p at_ m k md 32):=by show _=_;rw[o.out,i.out,if_neg oO,if_neg oO,if_pos rfl]
    have cb:Hid (SW (wr.alloc (.cells #[.int .i64 3,.int .i64 (md:Int),.string b] 168)) t K cap hb p C):=(A.out.below a.out.B).below (ax _ _);have D:Hid (ak (wr.alloc (.cells #[.int .i64 3,.int .i64 (md:Int),.string b] 168)) wr.heap.size [.int .i64 3,.int .i64 (md:Int),.string b]):=ak.new _ #[.int .i64 3,.int .i64 (md:Int),.string b] _ _ rfl;have ce:Hid (jj x (wr.alloc (.cells #[.int .i64 3,.int .i64 (md:Int),.string b] 168)) u5 (bM C p at_ m k)):=a.out.below (ax _ _);have ch:Hid (∀q,u5.ownBlock=some q->q≠wr.heap.size):=λq hq=>by have:=(a.out.O.lt q hq).2;omega
    clear o i A a
    go_wp2_with(first
     |(with_reducible show wpList _ _ _ (⟨_,Op.index 169 _ _,_,_,_,_⟩::_) _ _;refine dT rfl 169 _ _ rfl 32 168 Tryz.underlying169 _ Tryz.underlying168 rfl 3 du y .i64 k k rfl rfl rfl B _ F.out ?_)
     |(with_reducible show wpList _ _ _ (⟨_,Op.alloc 168,_,_,_,_⟩::_) _ _;refine aO rfl 168 rfl _ gn ?_)
     |(with_reducible show wpList _ _ _ (⟨_,Op.store 168 _ _,_,_,_,_⟩::_) _ _;refine aV rfl 168 _ _ rfl 168 _ _ rfl rfl du rfl (eZ _ _ _) ?_))
    generalize wr.alloc (.cells #[.int .i64 3,.int .i64 (md:Int),.string b] 168)=G at*;generalize wr.heap.size=r at*;have H:Hid (∀W,af G W->W.cell? ⟨r,1,none⟩=some (.int .i64 (md:Int))):=λW d=>(D.out.below d).2 1 oS;have ed:(md:Int)<5:=oO;refine yO (af G) [1,2,3,4,5,6,7,8] (aj (Below.refl _ _)) ?_;refine zO H.out ?_;refine zO H.out ?_;refine zO H.out ?_;refine zO H.out ?_;refine zO H.out ?_;refine zO H.out ?_;refine' zV rfl (λW d=>sO (cb.out.below d) rfl _ md rfl oO bt) ?_
    repeat refine zO H.out ?_
    refine ag ?_;have cv:Hid (ak G.drew r [.int .i64 3,.int .i64 (md:Int),.string b]):=D.out.below (aj (Below.refl _ _));have cx:Hid (jj x G.drew u5 (bM C p at_ m k)):=ce.out.below (aj (Below.refl _ _));clear cb D ce H;generalize G.drew=c7 at*;obtain⟨S,ci⟩:∃S,Hid (S=(oN md).toArray):=⟨_,rfl⟩;rw[<-ci.out];go_wp2;go_loopw [5,81] (λa2 L wr=>∃j:Nat,j<=32/\L= .int .i64 j/\Hid (jj x wr a2 (bM C p at_ m k++optSK p at_ m k md j))/\Hid (ak wr r [.int .i64 3,.int .i64 (md:Int),.string b])/\Hid (∀q,a2.ownBlock=some q->q≠r)) (λ_ L _=>32-(intOf L).toNat)
    case atStart=>exact⟨0,Nat.zero_le _,rfl,by show jj _ _ _ _;rw[show optSK p at_ m k md 0=[]from rfl,List.append_nil];exact cx.out,cv.out,ch.out⟩
    case round=>
     clear cx cv ch a4 b3 b4;obtain⟨j,d3,rfl,a,T,ac⟩:=hrel;by_cases av:j<32
     ·have ad:Hid (S.extract (j* 3) (j* 3+3)=(oW md j).toArray):=by show _=_;rw[ci.out];exact Dr md j av
      have V:Hid (optSK p at_ m k md (j+1)=optSK p at_ m k md j++mr p at_ m k md j):=rfl;have Q:Hid (mr p at_ m k md j=if bY md j=1/\preB p at_ (eM md j)=true then[⟨k,(j:Int),0,false,an m+an md,at_+(eM md j).size,m⟩]else[]):=rfl;have da:=Lib.hid (sI p at_ m k md j);have dy:=j2 md bt j av;obtain⟨a4,b3⟩:=bs.out wr a.out.B;have b4:w.heap.size<wr.heap.size:=World.block_lt_of_cell? _ _ a4;obtain⟨g,O⟩:∃g,g=bY md j:=⟨_,rfl⟩;obtain⟨U,ck⟩:∃U,U=modeF md j:=⟨_,rfl⟩;obtain⟨c,a8⟩:∃c,c=eM md j:=⟨_,rfl⟩;rw[<-O,<-a8]at Q;unfold oW at ad;rw[<-O,<-ck,<-a8]at ad;rw[<-a8]at dy;clear O ck a8;by_cases M:g=1
      ·subst M;cases n:preB p at_ c with
       |true=>
        obtain⟨no,s⟩:∃no:aA,no=⟨k,(j:Int),0,false,an m+an md,at_+c.size,m⟩:=⟨_,rfl⟩;have ab:=Lib.hid s;have al:Hid (optSK p at_ m k md (j+1)=optSK p at_ m k md j++[no]):=by show _=_;rw[V.out,Q.out,if_pos ⟨rfl,n⟩,s]
        have P:Hid (Lib.hasPrefix q.data.toList c.data.toList=true):=by show _=_;rw[Z.out];exact n
        have c5:IntKind.i64.wrap ((at_:Int)+(c.size:Int))=((at_+c.size:Nat):Int):=by rw[aG _ oO oO];omega
        have ec:IntKind.i64.wrap ((an m:Int)+(an md:Int))=((an m+an md:Nat):Int):=by have:=fR m;have:=fR md;rw[aG _ oO oO];omega
        have dd:Hid ((bM C p at_ m k++optSK p at_ m k md j).length<=2000):=by show _<=_;rw[List.length_append];have:=a3.out;have:=da.out;omega
        clear n V Q s
        go_wp2_with(first
         |(go_at_call 215;refine(Tryz.strings_HasPrefix _ _ _).mono ?_;rintro e w' ⟨rfl,f⟩;rw[f,P.out];clear f)
         |(with_reducible show wpList _ _ _ (⟨_,Op.index 169 _ _,_,_,_,_⟩::_) _ _;refine dT rfl 169 _ _ rfl 32 168 Tryz.underlying169 _ Tryz.underlying168 rfl 3 du S .i64 j j rfl rfl rfl av _ ad.out ?_)
         |(with_reducible show wpList _ _ _ (⟨_,Op.alloc 168,_,_,_,_⟩::_) _ _;refine aO rfl 168 rfl _ gn ?_)
         |(with_reducible show wpList _ _ _ (⟨_,Op.store 168 _ _,_,_,_,_⟩::_) _ _;refine aV rfl 168 _ _ rfl 168 _ _ rfl rfl du rfl (eZ _ _ _) ?_)
         |(with_reducible show wpList _ _ _ (⟨_,Op.alloc 179,_,_,_,_⟩::_) _ _;refine aO rfl 179 rfl _ j3 ?_)
         |(with_reducible show wpList _ _ _ (⟨_,Op.store 179 _ _,_,_,_,_⟩::_) _ _;refine aV rfl 179 _ _ rfl 179 _ [_,_] rfl rfl dI rfl (fU _ _) ?_))
        have am:Hid (jj x ((wr.alloc (.cells #[.int .i64 1,.int .i64 (U:Int),.string c] 168)).alloc (.cells #[.int .i64 ((at_:Int)+(c.size:Int)),.int .i64 (m:Int)] 179)) u5 (bM C p at_ m k++optSK p at_ m k md j)):=a.out.below (ah (ax _ _) _);have D:Hid (ak ((wr.alloc (.cells #[.int .i64 1,.int .i64 (U:Int),.string c] 168)).alloc (.cells #[.int .i64 ((at_:Int)+(c.size:Int)),.int .i64 (m:Int)] 179)) r [.int .i64 3,.int .i64 (md:Int),.string b]):=(T.out.alloc _).alloc _;have a0:Hid (ak ((wr.alloc (.cells #[.int .i64 1,.int .i64 (U:Int),.string c] 168)).alloc (.cells #[.int .i64 ((at_:Int)+(c.size:Int)),.int .i64 (m:Int)] 179)) (wr.heap.size+1) [.int .i64 ((at_:Int)+(c.size:Int)),.int .i64 (m:Int)]):=ak.new _ #[.int .i64 ((at_:Int)+(c.size:Int)),.int .i64 (m:Int)] _ _ oS;have bz:Hid (∀q,u5.ownBlock=some q->q≠r/\q≠wr.heap.size+1):=λq hq=>⟨ac.out q hq,by have:=(a.out.O.lt q hq).2;omega⟩;clear a T ac;generalize(wr.alloc (.cells #[.int .i64 1,.int .i64 (U:Int),.string c] 168)).alloc (.cells #[.int .i64 ((at_:Int)+(c.size:Int)),.int .i64 (m:Int)] 179)=X at*;generalize wr.heap.size+1=ap at*;have J:Hid (∀W,(af x W/\ak W r [.int .i64 3,.int .i64 (md:Int),.string b]/\ak W ap [.int .i64 ((at_:Int)+(c.size:Int)),.int .i64 (m:Int)])->W.cell? ⟨r,1,none⟩=some (.int .i64 (md:Int))):=λW d=>d.2.1.2 1 oS;refine yO (λW=>af x W/\ak W r [.int .i64 3,.int .i64 (md:Int),.string b]/\ak W ap [.int .i64 ((at_:Int)+(c.size:Int)),.int .i64 (m:Int)]) [1,2,3,4,5,6,9,0,7,0,8,0,10,11,12,0,13] ⟨aj am.out.B,D.out.drew,a0.out.drew⟩ ?_;refine zO J.out ?_;refine zO J.out ?_;refine zO J.out ?_;refine zO J.out ?_;refine zO J.out ?_;refine zO J.out ?_;refine' zV rfl (λW d=>kb 179 _ Tryz.underlying179 rfl rfl ap [_,_] dI rfl d.2.2) ?_;refine zZ ?_;refine(fi md _).mono ?_;rintro e d4 ⟨rfl,f⟩;rw[f];clear f;refine⟨_,rfl,⟨aj am.out.B,D.out.drew,a0.out.drew⟩,jO ?_⟩;refine zO J.out ?_;refine' zQ rfl (by go_simp;rfl) ⟨aj am.out.B,D.out.drew,a0.out.drew⟩ ?_;have co:Hid (jj x X.drew u5 (bM C p at_ m k++optSK p at_ m k md j)):=am.out.below (aj (Below.refl _ _));have b1:Hid (ak X.drew r [.int .i64 3,.int .i64 (md:Int),.string b]):=D.out.drew;have c2:Hid (ak X.drew ap [.int .i64 ((at_:Int)+(c.size:Int)),.int .i64 (m:Int)]):=a0.out.drew;clear am D a0 J;generalize X.drew=Y at*;refine' zQ (v:= .slice (some ⟨Y.heap.size,0,none⟩) 1 1) (w':=Y.alloc (.cells no.aE.toArray 181)) rfl (by rw[ab.out];go_simp;rfl) ⟨ah co.out.B _,b1.out.alloc _,c2.out.alloc _⟩ ?_;refine' wg co.out (ax _ _) rfl _ _ rfl rfl _ _ no rfl (oc _ no _ _ rfl) (by have:=dd.out;omega) ?_;intro a5 b5 bv hg cp;have N:=Lib.hid bv;have dz:Hid (∀q,a5.ownBlock=some q->q≠r):=by
         show∀q,_;intro q hq;rcases cp with e|e
         ·exact(bz.out q (by rw[<-e];exact hq)).1
         ·rw[e]at hq;injection hq with hq;have:=b1.out.1;have e2:(Y.alloc (.cells no.aE.toArray 181)).heap.size=Y.heap.size+1:=by simp
          omega
        have bx:ak b5 r [.int .i64 3,.int .i64 (md:Int),.string b]:=(b1.out.alloc _).grown hg (λq hq=>(bz.out q hq).1);have cq:ak b5 ap [.int .i64 ((at_:Int)+(c.size:Int)),.int .i64 (m:Int)]:=(c2.out.alloc _).grown hg (λq hq=>(bz.out q hq).2);refine⟨⟨bv.B,bx,cq⟩,?_⟩;have de:=Lib.hid bx;clear bv hg cp bx cq
        repeat refine zU ?_
        refine ag ?_;go_wp2;exact⟨⟨j+1,by omega,by go_num,by rw[al.out,<-List.append_assoc];exact N.out,de.out,dz.out⟩,by simp[intOf];omega⟩
       |false=>
        have al:Hid (optSK p at_ m k md (j+1)=optSK p at_ m k md j):=by show _=_;rw[V.out,Q.out,n,if_neg oS,List.append_nil]
        have P:Hid (Lib.hasPrefix q.data.toList c.data.toList=false):=by show _=_;rw[Z.out];exact n
        clear n V Q
        go_wp2_with(first
         |(go_at_call 215;refine(Tryz.strings_HasPrefix _ _ _).mono ?_;rintro e w' ⟨rfl,f⟩;rw[f,P.out];clear f)
         |(with_reducible show wpList _ _ _ (⟨_,Op.index 169 _ _,_,_,_,_⟩::_) _ _;refine dT rfl 169 _ _ rfl 32 168 Tryz.underlying169 _ Tryz.underlying168 rfl 3 du S .i64 j j rfl rfl rfl av _ ad.out ?_)
         |(with_reducible show wpList _ _ _ (⟨_,Op.alloc 168,_,_,_,_⟩::_) _ _;refine aO rfl 168 rfl _ gn ?_)
         |(with_reducible show wpList _ _ _ (⟨_,Op.store 168 _ _,_,_,_,_⟩::_) _ _;refine aV rfl 168 _ _ rfl 168 _ _ rfl rfl du rfl (eZ _ _ _) ?_))
        exact⟨⟨j+1,by omega,by go_num,by rw[al.out];exact a.out.below (ax _ _),T.out.alloc _,ac.out⟩,by simp[intOf];omega⟩
      have c6:((g:Int)==1)=false:=by rw[beq_eq_false_iff_ne];omega
      have al:Hid (optSK p at_ m k md (j+1)=optSK p at_ m k md j):=by show _=_;rw[V.out,Q.out,if_neg (λh=>M h.1),List.append_nil]
      clear M V Q
      go_wp2_with(first
       |(with_reducible show wpList _ _ _ (⟨_,Op.index 169 _ _,_,_,_,_⟩::_) _ _;refine dT rfl 169 _ _ rfl 32 168 Tryz.underlying169 _ Tryz.underlying168 rfl 3 du S .i64 j j rfl rfl rfl av _ ad.out ?_)
       |(with_reducible show wpList _ _ _ (⟨_,Op.alloc 168,_,_,_,_⟩::_) _ _;refine aO rfl 168 rfl _ gn ?_)
       |(with_reducible show wpList _ _ _ (⟨_,Op.store 168 _ _,_,_,_,_⟩::_) _ _;refine aV rfl 168 _ _ rfl 168 _ _ rfl rfl du rfl (eZ _ _ _) ?_))
      exact⟨⟨j+1,by omega,by go_num,by rw[al.out];exact a.out.below (ax _ _),T.out.alloc _,ac.out⟩,by simp[intOf];omega⟩
     ·have dl:j=32:=oO;have dE:Hid (jj x wr u5 (bM C p at_ m k++optSK p at_ m k md 32)):=by rw[<-dl];exact a.out
      have bd:=(T.out.2 0 oS);simp only[List.getD,List.getElem?_cons_zero,Option.getD_some]at bd;clear a T ac;go_wp2;exact⟨⟨k+1,by omega,by go_num,by rw[l.out];exact dE.out⟩,by simp[intOf];omega⟩
   have d5:((g:Int)==3)=false:=by rw[beq_eq_false_iff_ne];omega
   by_cases bi:g=4
   ·subst bi;have l:Hid (bM C p at_ m (k+1)=bM C p at_ m k++[ff C k at_ m (p.size-at_)]):=by show _=_;rw[o.out,i.out,if_neg oO,if_neg oO,if_neg oO,if_pos rfl]
    have dn:Hid (∀W,af wr W->SW W t K cap hb p C):=λW d=>A.out.below (ae a.out.B d);clear o i A
    go_wp2_with(first
     |(with_reducible show wpList _ _ _ (⟨_,Op.index 169 _ _,_,_,_,_⟩::_) _ _;refine dT rfl 169 _ _ rfl 32 168 Tryz.underlying169 _ Tryz.underlying168 rfl 3 du y .i64 k k rfl rfl rfl B _ F.out ?_)
     |(with_reducible show wpList _ _ _ (⟨_,Op.alloc 168,_,_,_,_⟩::_) _ _;refine aO rfl 168 rfl _ gn ?_)
     |(with_reducible show wpList _ _ _ (⟨_,Op.store 168 _ _,_,_,_,_⟩::_) _ _;refine aV rfl 168 _ _ rfl 168 _ _ rfl rfl du rfl (eZ _ _ _) ?_)
     |(with_reducible show wpList _ _ _ (⟨_,Op.load 179 _,_,_,_,_⟩::_) _ _;refine bk rfl 179 _ rfl _ Tryz.underlying179 rfl ⟨w.heap.size,0,none⟩ [.int .i64 (at_:Int),.int .i64 (m:Int)] dI rfl (gK ((dx.out wr a.out.B).alloc _)) ?_)
     |(go_at_call 216;refine(ve k at_ m _ t K cap hb p C (dn.out _ (ax _ _)) c3 a9 B).mono ?_;rintro e c7 ⟨rfl,cs⟩;have ds:=Lib.hid ((ax _ _).trans (cs.mono oS));clear cs;generalize ff C k at_ m (p.size-at_)=no at*;rw[no.Mv])
     |(at_builtin;refine kt a.out (ah ds.out _) rfl _ _ rfl rfl _ _ no (by rfl) (oc _ no _ _ oS) (by have:=a3.out;omega) ?_;intro a5 G N))
    exact⟨⟨k+1,by omega,by go_num,by rw[l.out];exact N.out⟩,by simp[intOf];omega⟩
   have d6:((g:Int)==4)=false:=by rw[beq_eq_false_iff_ne];omega
   have l:Hid (bM C p at_ m (k+1)=bM C p at_ m k):=by show _=_;rw[o.out,i.out,if_neg M,if_neg be,if_neg bf,if_neg bi,List.append_nil]
   clear M be bf bi o i A
   go_wp2_with(first
    |(with_reducible show wpList _ _ _ (⟨_,Op.index 169 _ _,_,_,_,_⟩::_) _ _;refine dT rfl 169 _ _ rfl 32 168 Tryz.underlying169 _ Tryz.underlying168 rfl 3 du y .i64 k k rfl rfl rfl B _ F.out ?_)
    |(with_reducible show wpList _ _ _ (⟨_,Op.alloc 168,_,_,_,_⟩::_) _ _;refine aO rfl 168 rfl _ gn ?_)
    |(with_reducible show wpList _ _ _ (⟨_,Op.store 168 _ _,_,_,_,_⟩::_) _ _;refine aV rfl 168 _ _ rfl 168 _ _ rfl rfl du rfl (eZ _ _ _) ?_))
   exact⟨⟨k+1,by omega,by go_num,by rw[l.out];exact a.out.below (ax _ _)⟩,by simp[intOf];omega⟩
  ·have dv:k=32:=oO;have l:Hid (jj w wr u5 (bM C p at_ m 32)):=by rw[<-dv];exact a.out.lift c8.out
   clear a A;go_wp2;go_ret;exact⟨_,rfl,l.out⟩
end
section
open Go.RowKit Go.WideMaps Go.Maps
def FZ (W:World) (b n:Nat):Prop:=b<W.heap.size/\∀i,i<n->W.frozen? ⟨b,i,none⟩=false
theorem FZ.below {W a:World} {b n:Nat} (h:FZ W b n) (hb:Below W.heap.size W a):FZ a b n:=⟨Nat.lt_of_lt_of_le h.1 hb.size,λi c=>(hb.frozen h.1).trans (h.2 i c)⟩
theorem FZ.set {W:World} {b n:Nat} (h:FZ W b n) (a:Addr) (u:Value):FZ (W.setCell a u) b n:=⟨by simpa using h.1,λi c=>by rw[World.frozen?_setCell];exact h.2 i c⟩
theorem FZ.grown {W a:World} {b n:Nat} {row:Option Nat} (h:FZ W b n) (hg:W.grownBy a row) (d:some b≠row):FZ a b n:=⟨Nat.lt_of_lt_of_le h.1 hg.size,λi c=>(hg.frozen_far ⟨b,i,none⟩ h.1 d).trans (h.2 i c)⟩
theorem FZ.new (W:World) (xs:Array Value) (t:TypeId) (b n:Nat) (hb:b=W.heap.size):FZ (W.alloc (.cells xs t)) b n:=⟨by simp;omega,λi _=>World.frozen?_alloc_at _ _ _ _ hb⟩
theorem ak.set {W:World} {b:Nat} {a:List Value} (h:ak W b a) (i:Nat) (u:Value) (d:i<a.length):ak (W.setCell ⟨b,i,none⟩ u) b (a.set i u):=by
 refine⟨by simpa using h.1,λj c=>?_⟩;rw[List.length_set]at c;by_cases e:j=i
 ·subst e;rw[World.cell?_setCell_same W _ _ (h.2 j c)];simp[List.getD,d]
 ·rw[World.cell?_setCell_other W _ _ _ (λf=>e (by injection f with _ g;exact g.symm)),h.2 j c];simp[List.getD,Ne.symm e]
def mM (C:Nat->Nat->Nat) (a m x:Nat):Nat->Nat->Nat:=λa' b=>if a'=a/\b=m then x else C a' b
theorem nh (C:Nat->Nat->Nat) (a m x:Nat):mM C a m x a m=x:=if_pos ⟨rfl,rfl⟩
theorem kY (C:Nat->Nat->Nat) (a m x a' b:Nat) (h:¬(a'=a/\b=m)):mM C a m x a' b=C a' b:=if_neg h
def pM (C:Nat->Nat->Nat) (a:Nat):Nat:=C a 0+C a 1+C a 2+C a 3+C a 4
theorem IZ {C:Nat->Nat->Nat} {a m x:Nat} (c:m<5) (d:x<C a m):pM (mM C a m x) a<pM C a:=by
 have b:m=0\/m=1\/m=2\/m=3\/m=4:=oO;unfold pM;rcases b with rfl|rfl|rfl|rfl|rfl<;>simp only[mM]<;>simp<;>omega
def ss (C:Nat->Nat->Nat) (L:Nat->List aA) (a:Nat):Prop:=∀m,m<5->C a m=1073741824\/∃b∈L m,b.bK C<=C a m
theorem Bv {C C':Nat->Nat->Nat} (h:∀a m,C' a m<=C a m) (b:aA):b.bK C'<=b.bK C:=Nat.add_le_add_left (h _ _) _
theorem Ld {C:Nat->Nat->Nat} {a m x:Nat} (c:x<=C a m):∀a' b,mM C a m x a' b<=C a' b:=by
 intro a' b;by_cases h:a'=a/\b=m
 ·obtain⟨rfl,rfl⟩:=h;rw[nh];exact c
 ·rw[kY _ _ _ _ _ _ h];exact Nat.le_refl _
theorem ss.Nv {C:Nat->Nat->Nat} {L:Nat->List aA} {a m:Nat} (h:ss C L a) {b:aA} (i:b∈L m) (k:b.bK C<C a m):ss (mM C a m (b.bK C)) L a:=by
 intro d l;have g:=Ld (C:=C) (a:=a) (m:=m) (x:=b.bK C) (Nat.le_of_lt k);by_cases e:d=m
 ·subst e;right;exact⟨b,i,by rw[nh];exact Bv g b⟩
 ·rw[kY _ _ _ _ _ _ (λh=>e h.2)];rcases h d l with c|⟨f,c,j⟩
  ·exact .inl c
  ·exact .inr ⟨f,c,Nat.le_trans (Bv g f) j⟩
theorem wJ {C C':Nat->Nat->Nat} {num at_ m:Nat} {b:aA} {n sz:Nat} {lg:Bool} (h:∀a m,at_<a->C a m=C' a m) (hn:0<n) (hb:b.run=0\/at_<b.at_):cW C num at_ m b n sz lg=cW C' num at_ m b n sz lg:=by
 have e1:aA.bK C ⟨num,-1,n,lg,sz+8* n,at_+n,m⟩=aA.bK C' ⟨num,-1,n,lg,sz+8* n,at_+n,m⟩:=by
  unfold aA.bK;rw[h _ _ (by show at_<at_+n;omega)]
 unfold cW;rcases hb with hb|hb
 ·rw[if_pos (.inl hb),if_pos (.inl hb)]
 ·have e2:b.bK C=b.bK C':=by unfold aA.bK;rw[h _ _ hb]
  rw[e1,e2]
theorem ri {C:Nat->Nat->Nat} {num at_ m:Nat} {a:aA} {n sz:Nat} {lg:Bool} (hn:0<n) (hb:a.run=0\/at_<a.at_):at_<(cW C num at_ m a n sz lg).at_:=by
 unfold cW;split
 ·show at_<at_+n;omega
 ·rename_i h
  rcases hb with hb|hb
  ·exact absurd (.inl hb) h
  ·exact hb
theorem ny {C:Nat->Nat->Nat} {num at_ m:Nat}:∀k,(fj C num at_ m k).run=0\/at_<(fj C num at_ m k).at_
 |0=> .inl rfl
 |k+1=> .inr (ri oO (ny k))
theorem uS {C C':Nat->Nat->Nat} {num at_ m:Nat} (h:∀a m,at_<a->C a m=C' a m):∀k,fj C num at_ m k=fj C' num at_ m k
 |0=>rfl
 |k+1=>by
  show cW C _ _ _ _ _ _ _=cW C' _ _ _ _ _ _ _;rw[wJ h oO (ny k),uS h k]
theorem nU {C:Nat->Nat->Nat} {num at_ m K:Nat}:∀k,(dM C num at_ m K k).run=0\/at_<(dM C num at_ m K k).at_
 |0=>ny K
 |k+1=> .inr (ri oO (nU k))
theorem sT {C C':Nat->Nat->Nat} {num at_ m K:Nat} (h:∀a m,at_<a->C a m=C' a m):∀k,dM C num at_ m K k=dM C' num at_ m K k
 |0=>uS h K
 |k+1=>by
  show cW C _ _ _ _ _ _ _=cW C' _ _ _ _ _ _ _;rw[wJ h oO (nU k),sT h k]
theorem Fx {C C':Nat->Nat->Nat} {p:ByteArray} {at_ m n:Nat} (h:∀a m,at_<a->C a m=C' a m):dZ C p at_ m n=dZ C' p at_ m n:=by
 unfold dZ ff;rw[sT h]
theorem nV {C C':Nat->Nat->Nat} {p:ByteArray} {at_ m:Nat} (h:∀a m,at_<a->C a m=C' a m):∀k,bM C p at_ m k=bM C' p at_ m k
 |0=>rfl
 |k+1=>by
  unfold bM;rw[nV h k,Fx h]
theorem GZ {C:Nat->Nat->Nat} {num at_ m K:Nat}:∀k,at_<=(dM C num at_ m K k).at_:=by
 have a:∀k,at_<=(fj C num at_ m k).at_:=λk=>by
  cases k with
  |zero=>exact Nat.le_refl _
  |succ k=>exact Nat.le_of_lt (ri oO (ny k))
 intro k;cases k with
 |zero=>exact a K
 |succ k=>exact Nat.le_of_lt (ri oO (nU k))
theorem LF {C:Nat->Nat->Nat} {p:ByteArray} {at_ m n:Nat} {b:aA} (a:b∈dZ C p at_ m n):at_<=b.at_:=by
 unfold dZ at a;split at a
 ·split at a
  ·rw[List.mem_singleton]at a;subst a;exact Nat.le_add_right _ _
  ·cases a
 split at a
 ·rw[List.mem_singleton]at a;subst a;exact Nat.le_refl _
 split at a
 ·have key:∀k,b∈optSK p at_ m n (modeF m n) k->at_<=b.at_:=by
   intro k
   induction k with
   |zero=>intro h;cases h
   |succ k c=>
    intro h;unfold optSK at h;rw[List.mem_append]at h;rcases h with h|h
    ·exact c h
    ·unfold mr at h;split at h
     ·rw[List.mem_singleton]at h;subst h;exact Nat.le_add_right _ _
     ·cases h
  exact key 32 a
 split at a
 ·rw[List.mem_singleton]at a;subst a;exact GZ _
 ·cases a
theorem x8 {C:Nat->Nat->Nat} {p:ByteArray} {at_ m:Nat} {a:aA}:∀k,a∈bM C p at_ m k->at_<=a.at_:=by
 intro k
 induction k with
 |zero=>intro h;cases h
 |succ k b=>
  intro h;unfold bM at h;rw[List.mem_append]at h;rcases h with h|h
  ·exact b h
  ·exact LF h
theorem tN {p t:ByteArray} {at_:Nat} (h:preB p at_ t=true) (a:at_<=p.size):at_+t.size<=p.size:=by
 unfold preB Lib.hasPrefix at h;rw[List.isPrefixOf_iff_prefix]at h;have b:=h.length_le;have e1:t.data.toList.length=t.size:=by simp
 have e2:(p.extract at_ p.size).data.toList.length=p.size-at_:=by
  show(p.extract at_ p.size).data.toList.length=_;rw[Array.length_toList];show(p.extract at_ p.size).size=_;rw[ByteArray.size_extract];omega
 omega
theorem Lw {C:Nat->Nat->Nat} {p:ByteArray} {at_ m n:Nat} (g:at_<p.size) (e:p.size<=4096) (c:m<5) {b:aA} (a:b∈dZ C p at_ m n):okO p b:=by
 have i:=fR m;unfold dZ at a;split at a
 ·split at a
  ·rename_i j d
   rw[List.mem_singleton]at a;subst a;exact⟨tN d oO,c,by show an m<=_;omega,by show 0<=_;omega⟩
  ·cases a
 split at a
 ·rw[List.mem_singleton]at a;subst a;exact⟨by show at_<=_;omega,oV _ _,by show an m<=_;omega,by show 0<=_;omega⟩
 split at a
 ·have key:∀k,b∈optSK p at_ m n (modeF m n) k->okO p b:=by
   intro k
   induction k with
   |zero=>intro h;cases h
   |succ k f=>
    intro h;unfold optSK at h;rw[List.mem_append]at h;rcases h with h|h
    ·exact f h
    ·unfold mr at h;split at h
     ·rename_i d
      rw[List.mem_singleton]at h;subst h;have l:=fR (modeF m n);exact⟨tN d.2 oO,c,by show an m+an (modeF m n)<=_;omega,by show 0<=_;omega⟩
     ·cases h
  exact key 32 a
 split at a
 ·rw[List.mem_singleton]at a;subst a;unfold ff;exact sq _ oO c e oO _ oO
 ·cases a
theorem qv {C:Nat->Nat->Nat} {p:ByteArray} {at_ m:Nat} (b:at_<p.size) (c:p.size<=4096) (d:m<5) {a:aA}:∀k,a∈bM C p at_ m k->okO p a:=by
 intro k
 induction k with
 |zero=>intro h;cases h
 |succ k e=>
  intro h;unfold bM at h;rw[List.mem_append]at h;rcases h with h|h
  ·exact e h
  ·exact Lw b c d h
theorem so:∀(l:List aA) (j k:Nat) (a:aA),l[j]?=some a->k<7->(l.flatMap aA.aE)[j* 7+k]?=a.aE[k]?
 |[],j,k,a,h,b=>by simp at h
 |x::l,0,k,a,h,b=>by
  simp only[List.getElem?_cons_zero,Option.some.injEq]at h;subst h;rw[List.flatMap_cons,List.getElem?_append_left (by show 0* 7+k<7;omega)];simp
 |x::l,j+1,k,a,h,b=>by
  rw[List.flatMap_cons,List.getElem?_append_right (by show 7<=_;omega)];rw[<-so l j k a (by simpa using h) b];congr 1;show(j+1)* 7+k-7=_;omega
structure SQ (w:World) (b a cap hb:Nat) (p:ByteArray) (C:Nat->Nat->Nat):Prop where
 S:SW w b a cap hb p C
 F:FZ w a (5* (p.size+1))
 n1:b≠a
 n2:hb≠b
 n3:hb≠a
theorem SQ.below {w W:World} {a b cap hb:Nat} {p:ByteArray} {C:Nat->Nat->Nat} (h:SQ w a b cap hb p C) (c:Below w.heap.size w W):SQ W a b cap hb p C:=⟨h.S.below c,h.F.below c,h.n1,h.n2,h.n3⟩
theorem SQ.set {w:World} {c d cap hb:Nat} {p:ByteArray} {C:Nat->Nat->Nat} (h:SQ w c d cap hb p C) (a m x:Nat) (o:a<=p.size) (q:m<5) (k:x<=1073741824):
 SQ (w.setCell ⟨d,a* 5+m,none⟩ (.int .i64 (x:Int))) c d cap hb p (mM C a m x):=by
 have hs:=h.S;have f:∀i,(w.setCell ⟨d,a* 5+m,none⟩ (.int .i64 (x:Int))).cell? ⟨c,i,none⟩=w.cell? ⟨c,i,none⟩:=λi=>World.cell?_setCell_other w _ _ _ (λe=>h.n1 (by injection e with e1;exact e1.symm));refine⟨⟨by simpa using hs.lt,by rw[f];exact hs.c0,λi v l=>by rw[f];exact hs.ct i v l,by rw[f];exact hs.cc,by rw[f];exact hs.cm,by simpa using hs.cl,λa' b g j=>?_,hs.hc,hs.hp,λa' b=>?_⟩,h.F.set _ _,h.n1,h.n2,h.n3⟩
 ·by_cases e:a'=a/\b=m
  ·obtain⟨rfl,rfl⟩:=e;rw[World.cell?_setCell_same w _ _ (hs.cz a' b g j),nh]
  ·rw[World.cell?_setCell_other w _ _ _ (λn=>e (by injection n with _ r;omega)),hs.cz a' b g j,kY _ _ _ _ _ _ e]
 ·by_cases e:a'=a/\b=m
  ·obtain⟨rfl,rfl⟩:=e;rw[nh];exact k
  ·rw[kY _ _ _ _ _ _ e];exact hs.b a' b
theorem SQ.grown {w W:World} {b c cap hb:Nat} {p:ByteArray} {C:Nat->Nat->Nat} (h:SQ w b c cap hb p C) {g:Nat} (hg:w.grownBy W (some g)) (j:g≠b) (f:g≠c):SQ W b c cap hb p C:=by
 have hs:=h.S;have d:∀i,W.cell? ⟨b,i,none⟩=w.cell? ⟨b,i,none⟩:=λi=>hg.cell_far ⟨b,i,none⟩ hs.lt (λe=>j (by injection e with e;exact e.symm));have k:∀i,W.cell? ⟨c,i,none⟩=w.cell? ⟨c,i,none⟩:=λi=>hg.cell_far ⟨c,i,none⟩ hs.cl (λe=>f (by injection e with e;exact e.symm));exact⟨⟨Nat.lt_of_lt_of_le hs.lt hg.size,by rw[d];exact hs.c0,λi v l=>by rw[d];exact hs.ct i v l,by rw[d];exact hs.cc,by rw[d];exact hs.cm,Nat.lt_of_lt_of_le hs.cl hg.size,λa m n o=>by rw[k];exact hs.cz a m n o,hs.hc,hs.hp,hs.b⟩,h.F.grown hg (λe=>f (by injection e with e;exact e.symm)),h.n1,h.n2,h.n3⟩
theorem LX:laidOutB Tryz.prog=true:=oK
theorem MJ:(179:TypeId)<Tryz.prog.types.size:=of_decide_eq_true oK
theorem Mn:(match Tryz.prog.underlying 179 with|some (.array _ _)|some (.struct _)=>true|_=>false)=true:=oK
theorem Ah:Keyed Tryz.prog 179:=Keyed.of_law (deep_law_laid LX (m:=3) oO MJ oK Mn)
theorem H4:Tryz.prog.keyType 179=true:=oK
theorem Ec:Tryz.prog.cellsOf 179=2:=oK
theorem IX:Tryz.prog.cellsOf 3=1:=oK
theorem My:Tryz.prog.types.size+1=(Tryz.prog.types.size-2)+3:=by
 have h:2<=Tryz.prog.types.size:=of_decide_eq_true oK;omega
theorem H7 (n:Nat) (a:Int) (h:(Lit.int .i64 a).wf=true):Tryz.prog.keyLits (n+1) 3 [.int .i64 a]=some [.int .i64 a]:=by
 simp[Program.keyLits,Tryz.underlying3,h]
def Kt (a m:Nat):Lit:= .string (keyBytes [.int .i64 (a:Int),.int .i64 (m:Int)])
theorem wh (a m:Nat) (f:a<=9223372036854775807) (g:m<=9223372036854775807):keyOf Tryz.prog 179 (.agg #[.int .i64 (a:Int),.int .i64 (m:Int)])=some (Kt a m):=by
 have c:(Lit.int .i64 (a:Int)).wf=true:=WalkArith.wf_i64 oO;have d:(Lit.int .i64 (m:Int)).wf=true:=WalkArith.wf_i64 oO;unfold keyOf;have b:=Tryz.underlying179;have e:(Value.agg #[.int .i64 (a:Int),.int .i64 (m:Int)]).formed Tryz.prog 179=true:=by simp[Value.formed,b,Ec]
 rw[b];simp only[H4,e,Bool.and_self,if_true];rw[My];generalize Tryz.prog.types.size-2=n;have hl:Tryz.prog.keyLits (n+3) 179 [.int .i64 (a:Int),.int .i64 (m:Int)]=some [.int .i64 (a:Int),.int .i64 (m:Int)]:=by
  unfold Program.keyLits;rw[b];dsimp only;rw[if_pos (by rw[Ec];exact⟨rfl,by kernel_rfl⟩)];simp only[List.mapM_cons,List.mapM_nil,IX,List.drop_zero,List.drop_succ_cons,List.take_succ_cons,List.take_zero,H7 _ _ c,H7 _ _ d];rfl
 rw[show(Value.agg #[.int .i64 (a:Int),.int .i64 (m:Int)]).cells.toList=[.int .i64 (a:Int),.int .i64 (m:Int)]from rfl,hl];rfl
theorem KS {a m a' b:Nat} (f:a<=9223372036854775807) (g:m<=9223372036854775807) (c:a'<=9223372036854775807) (d:b<=9223372036854775807) (h:Kt a m=Kt a' b):a=a'/\m=b:=by
 have e:=wh a m f g;have i:=wh a' b c d;rw[h]at e;have c:=Ah.inj e i;have d:(a:Int)=a'/\(m:Int)=b:=by simpa using c
 omega
def Jx (v:Value):Option (DataW Value×List MemPlace):=some (.held v,[])
abbrev EI:Value:=(aA.val ⟨0,0,0,false,0,0,0⟩)
theorem Lk (w:World):(zeroValue 181).run Tryz.prog w= .ok EI w:=oK
def cU (w:World) (hb d:Nat) (c:Nat->Nat->Option aA):Prop:=
 ∃D:DataW Value,Maps.IsMap D/\w.ownsMap Tryz.prog 179 Jx hb d D/\∀a m b,a<=4096->m<5->c a m=some b->D.atKey (Kt a m) (.held EI)= .held b.val
theorem cU.below {w W:World} {hb c:Nat} {a:Nat->Nat->Option aA} (h:cU w hb c a) (d:Below w.heap.size w W):cU W hb c a:=by
 obtain⟨D,e,f,g⟩:=h;refine⟨D,e,?_,g⟩;obtain⟨i,clock,b,F,hs,j⟩:=f;exact⟨i,clock,(d.block hb ((Array.getElem?_eq_some_iff.1 b).1)).trans b,F,hs,j⟩
theorem cU.set {w:World} {hb c:Nat} {b:Nat->Nat->Option aA} (h:cU w hb c b) {a:Addr} (g:hb≠a.block) (u:Value):cU (w.setCell a u) hb c b:=by
 obtain⟨D,d,e,f⟩:=h;exact⟨D,d,e.setCell g u,f⟩
theorem cU.vJ {w:World} {hb g i:Nat} {c d:Nat->Nat->Option aA} (h:cU w hb g c) (hc:g<=i) (j:∀a m b,a<=4096->m<5->d a m=some b->c a m=some b):cU w hb i d:=by
 obtain⟨D,k,l,n⟩:=h;exact⟨D,k,l.mono hc,λa m b e f o=>n a m b e f (j a m b e f o)⟩
theorem cU.lt {w:World} {hb c:Nat} {a:Nat->Nat->Option aA} (h:cU w hb c a):hb<w.heap.size:=by
 obtain⟨D,d,b,e⟩:=h;exact b.lt
def Ny (c:Nat->Nat->Option aA) (a m:Nat) (d:aA):Nat->Nat->Option aA:=λa' b=>if a'=a/\b=m then some d else c a' b
theorem cU.put {w:World} {hb d:Nat} {f:Nat->Nat->Option aA} (h:cU w hb d f) (a m:Nat) (c:aA) (t:a<=4096) (u:m<5) (hc:d<maxLen):
 ∃w',(Instr.mapUpdate 173 (.map (some hb)) (.agg #[.int .i64 (a:Int),.int .i64 (m:Int)]) c.val).run Tryz.prog w= .ok () w'/\cU w' hb (d+1) (Ny f a m c)/\w.grownBy w' (some hb):=by
 obtain⟨D,g,k,l⟩:=h;have i:=wh a m oO oO;obtain⟨w',s,n,o⟩:=k.update Ah Tryz.underlying173 hc i (show Jx c.val=some (.held c.val,[])from rfl);refine⟨w',s,⟨_,g.put _ _,n,λa' j p q r b=>?_⟩,o⟩;by_cases e:a'=a/\j=m
 ·obtain⟨rfl,rfl⟩:=e;rw[Maps.atKey_put_same g (Ah.key i)];unfold Ny at b;rw[if_pos ⟨rfl,rfl⟩]at b;rw[Option.some.inj b]
 ·rw[Maps.atKey_put_other]
  ·refine l a' j p q r ?_;unfold Ny at b;rwa[if_neg e]at b
  ·intro e2;exact e (KS oO oO oO oO e2)
theorem cU.lookup {w:World} {hb n:Nat} {c:Nat->Nat->Option aA} (h:cU w hb n c) (a m:Nat) (b:aA) (f:a<=4096) (g:m<5) (i:c a m=some b):
 (Instr.lookup 173 (.map (some hb)) (.agg #[.int .i64 (a:Int),.int .i64 (m:Int)]) false).run Tryz.prog w= .ok b.val w:=by
 obtain⟨D,p,j,k⟩:=h;have l:=wh a m oO oO;obtain⟨v,ps,o,d⟩:=j.lookup Ah Tryz.underlying173 (Lk w) (show Jx EI=some (.held EI,[])from rfl) l;rw[k a m b f g i]at d;have e:v=b.val:=by
  exact DataW.held.inj (Prod.mk.inj (Option.some.inj d)).1
 rw[o,e]
end
end Go.Proofs.YtmnlkganmgcpbaaGreatDoor
