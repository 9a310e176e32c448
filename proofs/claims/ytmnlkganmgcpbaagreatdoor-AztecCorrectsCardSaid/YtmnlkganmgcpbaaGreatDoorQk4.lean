import Derived.Test.YtmnlkganmgcpbaaGreatDoorQk3
import Derived.Maps.Views
import Derived.Maps.OwnSet
import Derived.DeepKeys4
import Derived.Maps.OwnOps
set_option maxRecDepth 100000
set_option maxHeartbeats 4000000
set_option linter.unusedVariables false
set_option linter.unusedSectionVars false
set_option linter.unusedSimpArgs false
namespace Go.Proofs.YtmnlkganmgcpbaaGreatDoor
section
open Go.RowKit
def bV (m n:Nat):Nat:=
 if 1<=n/\n<=(texts m).length then 1 else
 match m,n with
 |0,0=>3|1,0=>3|2,0=>3|4,0=>3|1,28=>3|4,15=>3
 |0,31=>4|1,31=>4|2,31=>4
 |0,28=>2|0,29=>2|0,30=>2|1,29=>2|1,30=>2|2,28=>2|2,29=>2|2,30=>2|3,31=>2|4,14=>2
 |_,_=>0
def modeF (m n:Nat):Nat:=
 match m,n with
 |0,0=>3|1,0=>3|2,0=>3|4,0=>3
 |0,28=>1|0,29=>2|0,30=>4|1,29=>2|1,30=>4|2,28=>1|2,30=>3
 |_,_=>0
def eJ (m n:Nat):ByteArray:=if n=0 then ByteArray.empty else(texts m).getD (n-1) ByteArray.empty
abbrev pr (m n:Nat):List Value:=[.int .i64 ((bV m n:Nat):Int),.int .i64 ((modeF m n:Nat):Int),.string (eJ m n)]
def oL (m:Nat):List Value:=(List.range 32).flatMap (pr m)
def NS:List Value:=(List.range 5).flatMap oL
theorem IC:eg.toList=NS:=oK
theorem Bm {α:Type} (L:Nat) (f:Nat->List α) (b:∀i,(f i).length=L):∀(k i j:Nat),i<k->j<L->((List.range k).flatMap f)[i* L+j]?=(f i)[j]?:=by
 intro k
 induction k with
 |zero=>intro i j h;omega
 |succ k a=>
  intro i j c d;have hl:((List.range k).flatMap f).length=k* L:=by
   clear a c
   induction k with
   |zero=>simp
   |succ k a=>rw[List.range_succ,List.flatMap_append,List.length_append,a];simp[b,Nat.succ_mul]
  rw[List.range_succ,List.flatMap_append];by_cases h:i<k
  ·rw[List.getElem?_append_left (by rw[hl];calc i* L+j<i* L+L:=oO
    _=(i+1)* L:=by rw[Nat.succ_mul]
    _<=k* L:=Nat.mul_le_mul_right _ oO)]
   exact a i j h d
  ·obtain rfl:i=k:=oO;rw[List.getElem?_append_right (by rw[hl];omega),hl];simp
theorem Bo {α:Type} (L:Nat) (f:Nat->List α) (a:∀i,(f i).length=L) (k:Nat):((List.range k).flatMap f).length=k* L:=by
 induction k with
 |zero=>simp
 |succ k b=>rw[List.range_succ,List.flatMap_append,List.length_append,b];simp[a,Nat.succ_mul]
theorem rq (m:Nat):(oL m).length=96:=Bo 3 (pr m) (λ_=>rfl) 32
theorem Bh (m n j:Nat) (hn:n<32) (a:j<3):(oL m)[n* 3+j]?=(pr m n)[j]?:=Bm 3 (pr m) (λ_=>rfl) 32 n j hn a
theorem xY (m k:Nat) (a:m<5) (b:k<96):eg[m* 96+k]?=(oL m)[k]?:=by
 have h:=Bm 96 oL rq 5 m k a b;rw[<-h,<-Array.getElem?_toList,IC];rfl
theorem ni:eg.size=480:=by
 rw[<-Array.length_toList,IC];exact Bo 96 oL rq 5
theorem ED (m n:Nat) (hn:n<32):(oL m).toArray.extract (n* 3) (n* 3+3)=(pr m n).toArray:=by
 apply Array.ext';rw[Array.toList_extract,List.extract_eq_take_drop];apply List.ext_getElem?;intro j;rw[List.getElem?_take];by_cases a:j<3
 ·rw[if_pos oO,List.getElem?_drop];exact Bh m n j hn a
 ·rw[if_neg oO,List.getElem?_eq_none (by show 3<=j;omega)]
structure az where
 num:Nat
 sec:Int
 run:Nat
 long:Bool
 size:Nat
 at_:Nat
 mode:Nat
deriving DecidableEq
def az.aE (a:az):List Value:=[.int .i64 (a.num:Int),.int .i64 a.sec,.int .i64 (a.run:Int),.bool a.long,.int .i64 (a.size:Int),.int .i64 (a.at_:Int),.int .i64 (a.mode:Int)]
def az.val (a:az):Value:= .agg a.aE.toArray
def az.bI (C:Nat->Nat->Nat) (a:az):Nat:=a.size+C a.at_ a.mode
structure SW (w:World) (c d cap hb:Nat) (p:ByteArray) (C:Nat->Nat->Nat):Prop where
 lt:c<w.heap.size
 c0:w.cell? ⟨c,0,none⟩=some (.string p)
 ct:∀i v,eg[i]?=some v->w.cell? ⟨c,1+i,none⟩=some v
 cc:w.cell? ⟨c,481,none⟩=some (.slice (some ⟨d,0,none⟩) (p.size+1) cap)
 cm:w.cell? ⟨c,482,none⟩=some (.map (some hb))
 cl:d<w.heap.size
 cz:∀a m,a<=p.size->m<5->w.cell? ⟨d,a* 5+m,none⟩=some (.int .i64 ((C a m:Nat):Int))
 hc:p.size+1<=cap
 hp:p.size<=4096
 b:∀a m,C a m<=1073741824
theorem SW.below {w W:World} {c d cap hb:Nat} {p:ByteArray} {C:Nat->Nat->Nat} (h:SW w c d cap hb p C) (b:Below w.heap.size w W):SW W c d cap hb p C:=
 ⟨Nat.lt_of_lt_of_le h.lt b.size,(b.cell h.lt).trans h.c0,λi v e=>(b.cell h.lt).trans (h.ct i v e),(b.cell h.lt).trans h.cc,(b.cell h.lt).trans h.cm,Nat.lt_of_lt_of_le h.cl b.size,
  λa m f g=>(b.cell h.cl).trans (h.cz a m f g),h.hc,h.hp,h.b⟩
theorem az.cells (W:World) (a:az) (c:TypeId) (b:Nat) (hb:b=W.heap.size):ak (W.alloc (.cells a.aE.toArray c)) b a.aE:=ak.new W a.aE.toArray c b hb
theorem tc {W:World} {b:Nat} {a:az} (h:ak W b a.aE):
 W.cell? ⟨b,0,none⟩=some (.int .i64 (a.num:Int))/\W.cell? ⟨b,1,none⟩=some (.int .i64 a.sec)/\W.cell? ⟨b,2,none⟩=some (.int .i64 (a.run:Int))/\W.cell? ⟨b,3,none⟩=some (.bool a.long)/\
 W.cell? ⟨b,4,none⟩=some (.int .i64 (a.size:Int))/\W.cell? ⟨b,5,none⟩=some (.int .i64 (a.at_:Int))/\W.cell? ⟨b,6,none⟩=some (.int .i64 (a.mode:Int)):=
 ⟨h.2 0 (by simp[az.aE]),h.2 1 (by simp[az.aE]),h.2 2 (by simp[az.aE]),h.2 3 (by simp[az.aE]),h.2 4 (by simp[az.aE]),h.2 5 (by simp[az.aE]),h.2 6 (by simp[az.aE])⟩
theorem lr (b:az) (w:World) (f g cap hb:Nat) (p:ByteArray) (C:Nat->Nat->Nat) (h:SW w f g cap hb p C) (i:b.at_<=p.size) (k:b.mode<5) (hs:b.size<=1073741824):
 Calls Tryz.prog 180 #[.pointer (some ⟨f,0,none⟩),b.val] w λe w'=>e= .returned (.int .i64 ((b.bI C:Nat):Int))/\Below w.heap.size w w':=by
 have r:=h.b b.at_ b.mode;have t:=h.hp;have y:=h.hc;obtain⟨num,d,run,long,size,at_,a⟩:=b;have l:Hid (az.bI C ⟨num,d,run,long,size,at_,a⟩=size+C at_ a):=rfl
 have q:Hid (∀W,af (w.alloc (.cells (az.aE ⟨num,d,run,long,size,at_,a⟩).toArray 181)) W->
  W.cell? ⟨w.heap.size,4,none⟩=some (.int .i64 (size:Int))/\W.cell? ⟨w.heap.size,5,none⟩=some (.int .i64 (at_:Int))/\W.cell? ⟨w.heap.size,6,none⟩=some (.int .i64 (a:Int))/\
  W.cell? ⟨f,481,none⟩=some (.slice (some ⟨g,0,none⟩) (p.size+1) cap)/\W.cell? ⟨g,at_* 5+a,none⟩=some (.int .i64 ((C at_ a:Nat):Int))):=by
  show∀W,_;intro W o;have j:=tc ((ak.new w (az.aE ⟨num,d,run,long,size,at_,a⟩).toArray 181 w.heap.size rfl).below o);have m:=(h.below (ax _ _)).below o;exact⟨j.2.2.2.2.1,j.2.2.2.2.2.1,j.2.2.2.2.2.2,m.cc,m.cz at_ a i k⟩
 have n:Hid (az.val ⟨num,d,run,long,size,at_,a⟩= .agg #[.int .i64 (num:Int),.int .i64 d,.int .i64 (run:Int),.bool long,.int .i64 (size:Int),.int .i64 (at_:Int),.int .i64 (a:Int)]):=rfl;rw[n.out,l.out];clear h l n;generalize C at_ a=c at*;have u:at_<=4096:=by simp only at i;omega
 simp only at k hs i;have v:(at_:Int)<(p.size:Int)+1:=oO;have x:(a:Int)<5:=oO;have s:IntKind.i64.wrap ((size:Int)+(c:Int))=((size+c:Nat):Int):=by rw[aF _ oO oO];omega
 go_enter Tryz.func180,Tryz.ntmps180;go_wp2;refine yO (af (w.alloc (.cells (az.aE ⟨num,d,run,long,size,at_,a⟩).toArray 181))) [1,2,3,4,5,6,7,8,9,10,11,12,13,14,15,16,17] (ai (Below.refl _ _)) ?_
 repeat refine zO q.out ?_
 refine ag ?_;go_wp2;go_ret;exact⟨rfl,(ax w _).trans ((ai (Below.refl _ _)).mono oS)⟩
def cQ (C:Nat->Nat->Nat) (num at_ m:Nat) (a:az) (n sz:Nat) (lg:Bool):az:=
 if a.run=0\/az.bI C ⟨num,-1,n,lg,sz+8* n,at_+n,m⟩<a.bI C then⟨num,-1,n,lg,sz+8* n,at_+n,m⟩else a
theorem mR:(Tryz.prog.info? 181).map (·.zero)=some (some (.agg #[.int .i64 0,.int .i64 0,.int .i64 0,.bool false,.int .i64 0,.int .i64 0,.int .i64 0])):=oK
theorem fG:(Tryz.prog.info? 181).map (·.size)=some 7:=oK
theorem az.one (b:az):∀v∈b.aE,v.oneCell'=true:=by
 intro v a;simp only[az.aE,List.mem_cons,List.not_mem_nil,or_false]at a;rcases a with rfl|rfl|rfl|rfl|rfl|rfl|rfl<;>rfl
theorem aR {P:Program} {w:World} {i:Array Oper} {j:List Oper} {c:Oper} {a:Act} {Q:Exit->Act->World->Prop} (r:c.guard=none) (g:TypeId) (p x:Operand) (k:c.op= .store g p x)
 (f:TypeId) (d:Array Value) (b:List Value) (l:a.eval p= .pointer (some ⟨w.heap.size,0,none⟩)) (m:a.eval x= .agg b.toArray) (n:(P.info? g).map (·.size)=some b.length)
 (s:b.length=d.size) (o:∀v∈b,v.oneCell'=true)
 (q:wpList P i Q j (a.put c.dst undef) (w.alloc (.cells b.toArray f))):wpList P i Q (c::j) a (w.alloc (.cells d f)):=by
 refine bT r g p x k f w.heap.size 0 d b l m (heap_alloc_new _ _) n oO o ?_;have e:(splice d.toList 0 b).toArray=b.toArray:=by
  unfold splice;rw[List.take_zero,List.nil_append,List.drop_eq_nil_of_le (by simp[s]),List.append_nil]
 rw[e,World.setRow_alloc_new];exact q
theorem aa.cells {w:World} {g:Nat} {l:List Value} {a:TypeId} (h:aa w g l.toArray a):ak w g l:=by
 refine⟨ar h,λi b=>?_⟩;rw[h.cell i (l.getD i undef) (by simp[List.getD,b])]
theorem aa.new (w:World) (c:Array Value) (a:TypeId) (b:Nat) (hb:b=w.heap.size):aa (w.alloc (.cells c a)) b c a:=by subst hb;exact heap_alloc_new _ _
theorem oC {W:World} {b:Nat} {a:az} (h:ak W b a.aE):∀j v,a.aE[j]?=some v->W.cell? ((⟨b,0,none⟩:Addr).add j)=some v:=by
 intro j v c;have hl:j<a.aE.length:=by
  rcases Nat.lt_or_ge j a.aE.length with d|d
  ·exact d
  ·rw[List.getElem?_eq_none d]at c;cases c
 rw[add_plain,Nat.zero_add,h.2 j hl];simp[List.getD,c]
theorem jB (a b:List Value) (h:b.length=a.length):(splice a.toArray.toList 0 b).toArray=b.toArray:=by
 unfold splice;rw[List.take_zero,List.nil_append,List.drop_eq_nil_of_le (by simp[h]),List.append_nil]
theorem sN {a:Act} {c:Oper} {W:World} {b:Nat} {q:Operand} (d:c.op= .load 181 q) (e:a.eval q= .pointer (some ⟨b,0,none⟩)) (x:az) (h:ak W b x.aE):
 (execOp a.eval c).run Tryz.prog W= .ok (.value x.val) W:=by
 have f:=gF (P:=Tryz.prog) W 181 _ ⟨b,0,none⟩ x.aE Tryz.underlying181 rfl fG (oC h);unfold execOp;simp only[d,e,Instr.loadAt,Instr.sureAddr,Sem.run_bind,Sem.run_pure,Result.andThen_ok,f];rfl
theorem D0 (n sz num at_ m:Nat) (lg:Bool) (a:az) (w:World) (f q cap hb B D b xb:Nat) (p:ByteArray) (C:Nat->Nat->Nat) (h:SW w f q cap hb p C)
 (E:ak w B [.int .i64 (num:Int)]) (hF:ak w D [.int .i64 (at_:Int),.int .i64 (m:Int)]) (g:ak w xb [.pointer (some ⟨f,0,none⟩)]) (hB:aa w b a.aE.toArray 181)
 (K:at_+n<=p.size) (L:m<5) (ad:sz<=100) (M:a.at_<=p.size) (N:a.mode<5) (O:a.size<=1073741824) (al:num<32) (am:a.run<=4096):
 Calls Tryz.prog 228 #[.int .i64 (n:Int),.int .i64 (sz:Int),.bool lg,.pointer (some ⟨B,0,none⟩),.pointer (some ⟨D,0,none⟩),.pointer (some ⟨b,0,none⟩),.pointer (some ⟨xb,0,none⟩)] w
  λe w'=>e= .returned (.tuple #[])/\aa w' b (cQ C num at_ m a n sz lg).aE.toArray 181/\Below b w w':=by
 have ap:=h.hp;have c1:=E.2 0 oS;have P:=hF.2 0 oS;have Q:=hF.2 1 oS;have S:=g.2 0 oS;simp only[List.getD,List.getElem?_cons_zero,List.getElem?_cons_succ,Option.getD_some]at c1 P Q S;have T:=Lib.hid h;have i:=Lib.hid hB;have av:=Lib.hid g.1;have U:=Lib.hid g;have a1:IntKind.i64.wrap (8* (n:Int))=((8* n:Nat):Int):=by rw[aF _ oO oO];omega
 have a2:IntKind.i64.wrap ((sz:Int)+((8* n:Nat):Int))=((sz+8* n:Nat):Int):=by rw[aF _ oO oO];omega
 have a3:IntKind.i64.wrap ((at_:Int)+(n:Int))=((at_+n:Nat):Int):=by rw[aF _ oO oO];omega
 obtain⟨no,r⟩:∃no:az,no=⟨num,-1,n,lg,sz+8* n,at_+n,m⟩:=⟨_,rfl⟩;have ab:=Lib.hid r;have o:Hid (cQ C num at_ m a n sz lg=if a.run=0\/no.bI C<a.bI C then no else a):=by rw[r];rfl
 have x:Hid (no.at_<=p.size/\no.mode<5/\no.size<=1073741824):=by rw[r];exact⟨K,L,by show sz+8* n<=_;omega⟩
 clear h hB E hF g r;go_enter Tryz.func228,Tryz.ntmps228;go_wp2_with(first|(refine aM rfl 181 rfl _ mR ?_)|(refine aR rfl 181 _ _ rfl 181 _ no.aE rfl (by rw[ab.out];rfl) fG rfl no.one ?_))
 have c:Hid (∀W,af (w.alloc (.cells no.aE.toArray 181)) W->W.cell? ⟨b,2,none⟩=some (.int .i64 (a.run:Int))/\W.cell? ⟨xb,0,none⟩=some (.pointer (some ⟨f,0,none⟩))):=by
  show∀W,_;intro W d;have hB:=(i.out.below (ax w (.cells no.aE.toArray 181))).below d;have g:=((U.out.alloc (.cells no.aE.toArray 181)).below d).2 0 oS;exact⟨(tc hB.cells).2.2.1,g⟩
 have s:Hid (∀W,af (w.alloc (.cells no.aE.toArray 181)) W->ak W w.heap.size no.aE):=λW d=>((aa.new w no.aE.toArray 181 _ rfl).cells).below d;have y:Hid (∀W,af (w.alloc (.cells no.aE.toArray 181)) W->ak W b a.aE):=λW d=>((i.out.below (ax w _)).below d).cells;have t:Hid (∀W,af (w.alloc (.cells no.aE.toArray 181)) W->SW W f q cap hb p C):=λW d=>(T.out.below (ax w _)).below d
 (try simp only[yQ,yU,yX,yY])
 by_cases F:a.run=0
 ·have V:((a.run:Int)==0)=true:=by rw[beq_iff_eq];omega
  have k:Hid (cQ C num at_ m a n sz lg=no):=by show _=_;rw[o.out,if_pos (.inl F)]
  refine yO (af (w.alloc (.cells no.aE.toArray 181))) [1,2,3,4,5,6,8,9,0,7,10,0,11,12] (ai (Below.refl _ _)) ?_
  repeat refine zO c.out ?_
  repeat(first|refine' mF rfl ?_|refine' lp rfl (ai (Below.refl _ _)) ?_)
  repeat refine zO c.out ?_
  refine ag ?_;have j:Hid (aa (w.alloc (.cells no.aE.toArray 181)).drew b a.aE.toArray 181):=(i.out.below (ax w _)).below (ai (Below.refl _ _));have z:Hid (ak (w.alloc (.cells no.aE.toArray 181)).drew w.heap.size no.aE):=(aa.new w no.aE.toArray 181 _ rfl).cells.below (ai (Below.refl _ _));have u:Hid (Below w.heap.size w (w.alloc (.cells no.aE.toArray 181)).drew):=ai (ax w _);generalize(w.alloc (.cells no.aE.toArray 181)).drew=a0 at*;have ac:b<w.heap.size:=ar i.out;go_wp2_with(first|(refine bj rfl 181 _ rfl _ Tryz.underlying181 rfl ⟨w.heap.size,0,none⟩ no.aE fG rfl (oC z.out) ?_)|(refine bT rfl 181 _ _ rfl 181 b 0 a.aE.toArray no.aE rfl rfl j.out fG (by show 7<=7;omega) no.one ?_;rw[jB a.aE no.aE (by rfl)]))
  refine bodyPost_end (results_none rfl _ _ _) rfl ?_;rw[k.out];exact⟨rfl,j.out.set _,below_setRow (u.out.mono oO) (Nat.le_refl _) _⟩
 ·have V:((a.run:Int)==0)=false:=by rw[beq_eq_false_iff_ne];omega
  refine yO (af (w.alloc (.cells no.aE.toArray 181))) [1,2,3,4,5,6,8,9,0,7,10,0,11,12] (ai (Below.refl _ _)) ?_
  repeat first|refine zO c.out ?_|refine zX c.out ?_
  refine' zW rfl (λW d=>sN rfl rfl no (s.out W d)) ?_
  repeat first|refine zO c.out ?_|refine zX c.out ?_
  refine' zW rfl (λW d=>sN rfl rfl a (y.out W d)) ?_;refine zZ ?_;refine(lr no _ f q cap hb p C (t.out _ (ai (Below.refl _ _))) x.out.1 x.out.2.1 x.out.2.2).mono ?_;rintro e X ⟨rfl,H⟩;have A:Hid (af (w.alloc (.cells no.aE.toArray 181)) X):=(ai (Below.refl _ _)).trans H;clear H;refine⟨_,rfl,A.out,jO ?_⟩;refine zZ ?_;refine(lr a _ f q cap hb p C (t.out _ A.out) M N O).mono ?_;rintro e l ⟨rfl,J⟩;have v:Hid (af (w.alloc (.cells no.aE.toArray 181)) l):=ae A.out J;clear J;refine⟨_,rfl,v.out,jO ?_⟩;have j:Hid (aa l b a.aE.toArray 181):=(i.out.below (ax w (.cells no.aE.toArray 181))).below v.out;have z:Hid (ak l w.heap.size no.aE):=s.out l v.out;have u:Hid (Below w.heap.size w l):=(ax w _).trans (v.out.mono oS);have ac:b<w.heap.size:=ar i.out;by_cases G:no.bI C<a.bI C
  ·have k:Hid (cQ C num at_ m a n sz lg=no):=by show _=_;rw[o.out,if_pos (.inr G)]
   repeat first|refine zO c.out ?_|refine zX c.out ?_
   refine ag ?_;clear c s y t o;generalize no.bI C=Y at*;generalize a.bI C=Z at*;go_wp2_with(first|(refine bj rfl 181 _ rfl _ Tryz.underlying181 rfl ⟨w.heap.size,0,none⟩ no.aE fG rfl (oC z.out) ?_)|(refine bT rfl 181 _ _ rfl 181 b 0 a.aE.toArray no.aE rfl rfl j.out fG (by show 7<=7;omega) no.one ?_;rw[jB a.aE no.aE (by rfl)]))
   refine bodyPost_end (results_none rfl _ _ _) rfl ?_;rw[k.out];exact⟨rfl,j.out.set _,below_setRow (u.out.mono oO) (Nat.le_refl _) _⟩
  ·have k:Hid (cQ C num at_ m a n sz lg=a):=by show _=_;rw[o.out,if_neg (λh=>h.elim F G)]
   repeat first|refine zO c.out ?_|refine zX c.out ?_
   refine ag ?_;clear c s y t o;generalize no.bI C=Y at*;generalize a.bI C=Z at*;go_wp2;refine bodyPost_end (results_none rfl _ _ _) rfl ?_;rw[k.out];exact⟨rfl,j.out,u.out.mono oO⟩
def ff (C:Nat->Nat->Nat) (num at_ m:Nat):Nat->az
 |0=>⟨0,0,0,false,1073741824,at_,m⟩
 |k+1=>cQ C num at_ m (ff C num at_ m k) (31+k) (an m+16) true
def dH (C:Nat->Nat->Nat) (num at_ m K:Nat):Nat->az
 |0=>ff C num at_ m K
 |k+1=>cQ C num at_ m (dH C num at_ m K k) (1+k) (an m+5) false
def eW (C:Nat->Nat->Nat) (num at_ m left:Nat):az:=dH C num at_ m (min left 2078-30) (min left 31)
def okO (p:ByteArray) (a:az):Prop:=a.at_<=p.size/\a.mode<5/\a.size<=1073741824/\a.run<=4096
theorem fT (m:Nat):an m<=5:=by unfold an;split<;>omega
theorem En {C:Nat->Nat->Nat} {num at_ m:Nat} {a:az} {n sz:Nat} {lg:Bool} {p:ByteArray} (h:okO p a) (b:at_+n<=p.size) (c:m<5) (d:sz<=100) (e:p.size<=4096):okO p (cQ C num at_ m a n sz lg):=by
 unfold cQ;split
 ·exact⟨b,c,by show sz+8* n<=_;omega,by show n<=_;omega⟩
 ·exact h
theorem vM {C:Nat->Nat->Nat} {num at_ m:Nat} {p:ByteArray} (b:at_<=p.size) (a:m<5) (c:p.size<=4096):∀k,at_+30+k<=p.size\/k=0->okO p (ff C num at_ m k)
 |0,_=>⟨b,a,Nat.le_refl _,by show 0<=_;omega⟩
 |k+1,h=>En (vM b a c k oO) oO a (by have:=fT m;omega) c
theorem sJ {C:Nat->Nat->Nat} {num at_ m:Nat} {p:ByteArray} (K:Nat) (c:at_<=p.size) (a:m<5) (b:p.size<=4096) (d:at_+30+K<=p.size\/K=0):∀k,at_+k<=p.size->okO p (dH C num at_ m K k)
 |0,_=>vM c a b K d
 |k+1,h=>En (sJ K c a b d k oO) oO a (by have:=fT m;omega) b
structure FS (w wr:World) (a b cap hb:Nat) (p:ByteArray) (C:Nat->Nat->Nat) (num at_ m:Nat):Prop where
 B:Below w.heap.size w wr
 S:SW wr a b cap hb p C
 X:ak wr w.heap.size [.pointer (some ⟨a,0,none⟩)]
 F:ak wr (w.heap.size+1) [.int .i64 (at_:Int),.int .i64 (m:Int)]
 N:ak wr (w.heap.size+2) [.int .i64 (num:Int)]
 Z:aa wr (w.heap.size+3) (az.aE ⟨0,0,0,false,0,0,0⟩).toArray 181
structure BS (w wr:World) (a b cap hb:Nat) (p:ByteArray) (C:Nat->Nat->Nat) (num at_ m:Nat) (c:az):Prop extends FS w wr a b cap hb p C num at_ m where
 O:aa wr (w.heap.size+4) c.aE.toArray 181
theorem FS.below {w wr a:World} {b c cap hb:Nat} {p:ByteArray} {C:Nat->Nat->Nat} {num at_ m:Nat} (h:FS w wr b c cap hb p C num at_ m) (hB:Below wr.heap.size wr a):FS w a b c cap hb p C num at_ m:=
 ⟨ae h.B hB,h.S.below hB,h.X.below hB,h.F.below hB,h.N.below hB,h.Z.below hB⟩
theorem o8 {P:Program} {w:World} {e:Array Oper} {f:List Oper} {b:Oper} {a:Act} {Q:Exit->Act->World->Prop} (l:b.guard=none) (c:TypeId) (i:b.op= .alloc c)
 (d:Array Value) (j:(P.info? c).map (·.zero)=some (some (.agg d))) (g:Nat) (hg:g=w.heap.size)
 (k:wpList P e Q f (a.put b.dst (.pointer (some ⟨g,0,none⟩))) (w.alloc (.cells d c))):wpList P e Q (b::f) a w:=by
 subst hg;exact aM l c i d j k
theorem FS.start (w:World) (a b cap hb:Nat) (p:ByteArray) (C:Nat->Nat->Nat) (num at_ m:Nat) (c d e:TypeId) (h:SW w a b cap hb p C):
 FS w ((((w.alloc (.cells #[.pointer (some ⟨a,0,none⟩)] c)).alloc (.cells #[.int .i64 (at_:Int),.int .i64 (m:Int)] d)).alloc (.cells #[.int .i64 (num:Int)] e)).alloc (.cells (az.aE ⟨0,0,0,false,0,0,0⟩).toArray 181)) a b cap hb p C num at_ m:=by
 refine⟨ah (ah (ah (ax _ _) _) _) _,(((h.below (ax _ _)).below (ax _ _)).below (ax _ _)).below (ax _ _),?_,?_,?_,aa.new _ _ _ _ oS⟩
 ·exact((ak.new w #[.pointer (some ⟨a,0,none⟩)] c _ rfl).alloc _).alloc _|>.alloc _
 ·exact((ak.new (w.alloc _) #[.int .i64 (at_:Int),.int .i64 (m:Int)] d (w.heap.size+1) oS).alloc _).alloc _
 ·exact(ak.new ((w.alloc _).alloc _) #[.int .i64 (num:Int)] e (w.heap.size+2) oS).alloc _
theorem ak.lower {W a:World} {b B:Nat} {c:List Value} (h:ak W b c) (hb:Below B W a) (hl:b<B):ak a b c:=
 ⟨Nat.lt_of_lt_of_le h.1 hb.size,λi d=>(hb.cell hl).trans (h.2 i d)⟩
theorem aa.lower {W b:World} {g B:Nat} {c:Array Value} {a:TypeId} (h:aa W g c a) (hb:Below B W b) (hl:g<B):aa b g c a:=(hb.block _ hl).trans h
theorem SW.lower {w W:World} {c e cap hb B:Nat} {p:ByteArray} {C:Nat->Nat->Nat} (h:SW w c e cap hb p C) (b:Below B w W) (d:c<B) (f:e<B):SW W c e cap hb p C:=
 ⟨Nat.lt_of_lt_of_le h.lt b.size,(b.cell d).trans h.c0,λi v g=>(b.cell (p:=⟨c,1+i,none⟩) d).trans (h.ct i v g),(b.cell d).trans h.cc,(b.cell d).trans h.cm,Nat.lt_of_lt_of_le h.cl b.size,
  λa m j k=>(b.cell f).trans (h.cz a m j k),h.hc,h.hp,h.b⟩
theorem BS.step {w wr a:World} {b c cap hb:Nat} {p:ByteArray} {C:Nat->Nat->Nat} {num at_ m:Nat} {f d:az} (h:BS w wr b c cap hb p C num at_ m f) (g:b<w.heap.size) (i:c<w.heap.size)
 (e:aa a (w.heap.size+4) d.aE.toArray 181) (hB:Below (w.heap.size+4) wr a):BS w a b c cap hb p C num at_ m d:=
 ⟨⟨h.B.trans (hB.mono oO),h.S.lower hB oO oO,h.X.lower hB oO,h.F.lower hB oO,h.N.lower hB oO,h.Z.lower hB oO⟩,e⟩
theorem vD (num at_ m:Nat) (w:World) (a b cap hb:Nat) (p:ByteArray) (C:Nat->Nat->Nat) (h:SW w a b cap hb p C) (a4:at_<p.size) (r:m<5) (hn:num<32):
 Calls Tryz.prog 216 #[.pointer (some ⟨a,0,none⟩),.agg #[.int .i64 (at_:Int),.int .i64 (m:Int)],.int .i64 (num:Int)] w
  λe w'=>e= .returned (eW C num at_ m (p.size-at_)).val/\Below w.heap.size w w':=by
 have z:=h.hp;have A:=Lib.hid h;obtain⟨Y,B⟩:w.cell? ⟨a,0,none⟩=some (.string p)/\a<w.heap.size:=⟨h.c0,h.lt⟩;have N:b<w.heap.size:=h.cl;obtain⟨left,hl⟩:∃left,left=p.size-at_:=⟨_,rfl⟩;have a8:IntKind.i64.wrap ((p.size:Int)-(at_:Int))=(left:Int):=by rw[aF _ oO oO];omega
 have a9:at_+left<=p.size:=oO;have bb:1<=left:=oO;have bd:left<=4096:=oO;rw[<-hl];clear hl h;go_enter Tryz.func216,Tryz.ntmps216;go_wp2_with(refine o8 rfl 181 rfl _ mR (w.heap.size+3) oS ?_)
 have u:Hid (FS w _ a b cap hb p C num at_ m):=FS.start w a b cap hb p C num at_ m 110 179 3 A.out;have D:((((w.alloc (.cells #[.pointer (some ⟨a,0,none⟩)] 110)).alloc (.cells #[.int .i64 (at_:Int),.int .i64 (m:Int)] 179)).alloc (.cells #[.int .i64 (num:Int)] 3)).alloc (.cells (az.aE ⟨0,0,0,false,0,0,0⟩).toArray 181)).heap.size=w.heap.size+4:=by simp
 have O:=Lib.hid D;clear D;show Code.wp _ _ _ _ ((((w.alloc (.cells #[.pointer (some ⟨a,0,none⟩)] 110)).alloc (.cells #[.int .i64 (at_:Int),.int .i64 (m:Int)] 179)).alloc (.cells #[.int .i64 (num:Int)] 3)).alloc (.cells (az.aE ⟨0,0,0,false,0,0,0⟩).toArray 181));generalize(((w.alloc (.cells #[.pointer (some ⟨a,0,none⟩)] 110)).alloc (.cells #[.int .i64 (at_:Int),.int .i64 (m:Int)] 179)).alloc (.cells #[.int .i64 (num:Int)] 3)).alloc (.cells (az.aE ⟨0,0,0,false,0,0,0⟩).toArray 181)=i at*;have E:Hid (∀W,af i W->W.cell? ⟨w.heap.size,0,none⟩=some (.pointer (some ⟨a,0,none⟩))/\W.cell? ⟨a,0,none⟩=some (.string p)/\W.cell? ⟨w.heap.size+1,0,none⟩=some (.int .i64 (at_:Int))):=by
  show∀W,_;intro W Z;have g:=u.out.below Z;exact⟨g.X.2 0 oS,g.S.c0,g.F.2 0 oS⟩
 (try simp only[yQ,yU,yX,yY])
 clear Y A;refine yO (af i) [1,2,3,4,5,6,7,8,9] (ai (Below.refl _ _)) ?_
 repeat refine zO E.out ?_
 refine ag ?_;clear E;have t:Hid (FS w i.drew a b cap hb p C num at_ m):=u.out.below (ai (Below.refl _ _));have q:Hid (i.drew.heap.size=w.heap.size+4):=O.out;clear u O;generalize i.drew=F at*;have G:=t.out.F.2 0 oS;have H:=t.out.F.2 1 oS;simp only[List.getD,List.getElem?_cons_zero,List.getElem?_cons_succ,Option.getD_some]at G H;have be:=fT m;have P:Hid (∀k,ff C num at_ m (k+1)=cQ C num at_ m (ff C num at_ m k) (31+k) (an m+16) true):=λk=>rfl;have al:Hid (∀K k,dH C num at_ m K (k+1)=cQ C num at_ m (dH C num at_ m K k) (1+k) (an m+5) false):=λK k=>rfl;have am:Hid (eW C num at_ m left=dH C num at_ m (min left 2078-30) (min left 31)):=rfl;have Q:Hid (∀k,at_+30+k<=p.size\/k=0->okO p (ff C num at_ m k)):=vM oO r z;have ap:Hid (∀K,at_+30+K<=p.size\/K=0->∀k,at_+k<=p.size->okO p (dH C num at_ m K k)):=λK s=>sJ K oO r z s;go_wp2_with(first|(go_at_call 132;refine(eZ m _).mono ?_;rintro e w' ⟨rfl,S⟩;rw[S];clear S;generalize an m=J at*)|(refine o8 rfl 181 rfl _ mR (w.heap.size+4) q.out.symm ?_)|(rw[<-q.out];refine aR rfl 181 _ _ rfl 181 _ (az.aE ⟨0,0,0,false,1073741824,at_,m⟩) rfl rfl fG rfl (az.one _) ?_))
 rw[q.out];have T:Hid (BS w (F.alloc (.cells (az.aE ⟨0,0,0,false,1073741824,at_,m⟩).toArray 181)) a b cap hb p C num at_ m (ff C num at_ m 0)):=⟨t.out.below (ax _ _),aa.new _ _ _ _ q.out.symm⟩;clear q t G H;generalize F.alloc (.cells (az.aE ⟨0,0,0,false,1073741824,at_,m⟩).toArray 181)=a5 at*;obtain⟨K,s⟩:∃K,K=min left 2078:=⟨_,rfl⟩;have ab:=Lib.hid s;have bf:K<=2078:=oO;have bi:K<=left:=oO;have av:min (left:Int) 2078=(K:Int):=oO;clear s;go_loopw [11] (λd wr=>∃k:Nat,(31+k<=K+1\/k=0)/\d= .int .i64 ((31+k:Nat):Int)/\Hid (BS w wr a b cap hb p C num at_ m (ff C num at_ m k))) (λd _=>K+1-(intOf d).toNat)
 case atStart=>exact⟨0,.inr rfl,rfl,T.out⟩
 case round=>
  clear T;obtain⟨k,ac,rfl,hB⟩:=hrel;by_cases a0:31+k<=K
  ·have c:Hid (okO p (ff C num at_ m k)):=Q.out k oO;have v:=Lib.hid (P.out k);go_wp2_with(go_at_call 228;(refine(D0 (31+k) (J+16) num at_ m true (ff C num at_ m k) wr a b cap hb _ _ _ _ p C hB.out.S hB.out.N hB.out.F hB.out.X hB.out.O oO r oO c.out.1 c.out.2.1 c.out.2.2.1 hn c.out.2.2.2).mono ?_;rintro e ad ⟨rfl,n,o⟩;have x:=Lib.hid (hB.out.step B N n o);clear n o))
   refine⟨⟨k+1,by omega,by go_num,?_⟩,by simp[intOf];omega⟩;rw[v.out];exact x.out
  ·have U:k=K-30:=oO;have V:Hid (BS w wr a b cap hb p C num at_ m (dH C num at_ m (K-30) 0)):=by
    show BS _ _ _ _ _ _ _ _ _ _ _ (ff C num at_ m (K-30));rw[<-U];exact hB.out
   clear hB U Q P;have bo:(K:Int)<((31+k:Nat):Int):=oO;clear a0 ac;generalize((31+k:Nat):Int)=a6 at*;obtain⟨L,M⟩:∃L,L=min left 31:=⟨_,rfl⟩;have a1:=Lib.hid M;have bq:L<=31:=oO;have bs:L<=left:=oO;have bt:min (left:Int) 31=(L:Int):=oO;clear M;have a2:Hid (∀j,at_+j<=p.size->okO p (dH C num at_ m (K-30) j)):=ap.out (K-30) oO;go_wp2;clear av;go_loopw [12] (λd wr=>∃j:Nat,j<=L/\d= .int .i64 ((1+j:Nat):Int)/\Hid (BS w wr a b cap hb p C num at_ m (dH C num at_ m (K-30) j))) (λd _=>L+1-(intOf d).toNat)
   case atStart=>exact⟨0,by omega,rfl,V.out⟩
   case round=>
    clear V;obtain⟨j,a7,rfl,hB⟩:=hrel;by_cases bv:1+j<=L
    ·have c:Hid (okO p (dH C num at_ m (K-30) j)):=a2.out j oO;have v:=Lib.hid (al.out (K-30) j);go_wp2_with(go_at_call 228;(refine(D0 (1+j) (J+5) num at_ m false (dH C num at_ m (K-30) j) wr a b cap hb _ _ _ _ p C hB.out.S hB.out.N hB.out.F hB.out.X hB.out.O oO r oO c.out.1 c.out.2.1 c.out.2.2.1 hn c.out.2.2.2).mono ?_;rintro e ad ⟨rfl,n,o⟩;have x:=Lib.hid (hB.out.step B N n o);clear n o))
     refine⟨⟨j+1,by omega,by go_num,?_⟩,by simp[intOf];omega⟩;rw[v.out];exact x.out
    ·have X:j=L:=oO;have l:Hid (BS w wr a b cap hb p C num at_ m (eW C num at_ m left)):=by
      have g:=hB.out;rw[X,a1.out,ab.out,<-am.out]at g;exact g
     clear hB X;obtain⟨f,y⟩:∃f,f=eW C num at_ m left:=⟨_,rfl⟩;rw[<-y]at l;have a3:=Lib.hid y;clear y;go_wp2_with(first|(refine bj rfl 181 _ rfl _ Tryz.underlying181 rfl ⟨w.heap.size+4,0,none⟩ f.aE fG rfl (oC l.out.O.cells) ?_)|(refine bT rfl 181 _ _ rfl 181 (w.heap.size+3) 0 _ f.aE rfl rfl l.out.Z fG (by show 7<=7;omega) f.one ?_;rw[jB _ f.aE (by rfl)]))
     (try simp only[Exit.inBlock,Exit.then])
     refine bodyPost_ret (results_cell_row rfl _ _ (w.heap.size+3) 181 f.aE.toArray (0,0) _ rfl (l.out.Z.set _) Tryz.underlying181 rfl fG) rfl ?_;exact⟨by rw[<-a3.out];rfl,below_setRow l.out.B oO _⟩
def preB (p:ByteArray) (at_:Nat) (a:ByteArray):Bool:=Lib.hasPrefix (p.extract at_ p.size).data.toList a.data.toList
def mS (p:ByteArray) (at_ m n md s:Nat):List az:=
 if bV md s=1/\preB p at_ (eJ md s)=true then[⟨n,(s:Int),0,false,an m+an md,at_+(eJ md s).size,m⟩]else[]
def optSK (p:ByteArray) (at_ m n md:Nat):Nat->List az
 |0=>[]
 |k+1=>optSK p at_ m n md k++mS p at_ m n md k
def dU (C:Nat->Nat->Nat) (p:ByteArray) (at_ m n:Nat):List az:=
 if bV m n=1 then(if preB p at_ (eJ m n)=true then[⟨n,-1,0,false,an m,at_+(eJ m n).size,m⟩]else[])
 else if bV m n=2 then[⟨n,-1,0,false,an m,at_,modeF m n⟩]
 else if bV m n=3 then optSK p at_ m n (modeF m n) 32
 else if bV m n=4 then[eW C n at_ m (p.size-at_)]
 else[]
def bJ (C:Nat->Nat->Nat) (p:ByteArray) (at_ m:Nat):Nat->List az
 |0=>[]
 |k+1=>bJ C p at_ m k++dU C p at_ m k
theorem Ki (p:ByteArray) (at_ m n md s:Nat):(mS p at_ m n md s).length<=1:=by unfold mS;split<;>simp
theorem s6 (p:ByteArray) (at_ m n md:Nat):∀k,(optSK p at_ m n md k).length<=k
 |0=>Nat.le_refl _
 |k+1=>by
  have a:=s6 p at_ m n md k;have b:=Ki p at_ m n md k;unfold optSK;rw[List.length_append];omega
theorem Kk (C:Nat->Nat->Nat) (p:ByteArray) (at_ m n:Nat):(dU C p at_ m n).length<=32:=by
 have h:=s6 p at_ m n (modeF m n) 32;unfold dU;generalize optSK p at_ m n (modeF m n) 32=l at*;generalize eW C n at_ m (p.size-at_)=q;generalize preB p at_ (eJ m n)=z;generalize bV m n=a;by_cases b:a=1
 ·rw[if_pos b];cases z<;>simp
 ·rw[if_neg b];by_cases c:a=2
  ·rw[if_pos c];simp
  ·rw[if_neg c];by_cases d:a=3
   ·rw[if_pos d];exact h
   ·rw[if_neg d];split<;>simp
theorem rH (C:Nat->Nat->Nat) (p:ByteArray) (at_ m:Nat):∀k,(bJ C p at_ m k).length<=32* k
 |0=>Nat.le_refl _
 |k+1=>by
  have a:=rH C p at_ m k;have b:=Kk C p at_ m k;unfold bJ;rw[List.length_append];omega
theorem pe (m n:Nat):modeF m n<5:=by unfold modeF;split<;>omega
theorem jZ:∀m,m<5->∀n,n<32->(eJ m n).size<=2:=of_decide_eq_true oK
theorem Kb:(Tryz.prog.info? 181).map (λi=>(i.zero,i.size,i.bytes))=some (some (.agg #[.int .i64 0,.int .i64 0,.int .i64 0,.bool false,.int .i64 0,.int .i64 0,.int .i64 0]),7,56):=oK
structure jh (w wr:World) (v:Value) (l:List az):Prop where
 B:af w wr
 O:wr.ownsRow w.heap.size 181 7 v l.length (l.flatMap az.aE)
theorem jh.start (w wr:World) (h:af w wr):jh w wr (.slice none 0 0) []:=⟨h,World.ownsRow_nil _ _ _ _⟩
theorem jh.below {w wr W:World} {v:Value} {l:List az} (h:jh w wr v l) (a:Below wr.heap.size wr W):jh w W v l:=⟨ae h.B a,au h.O a⟩
theorem jh.lift {w b wr:World} {v:Value} {l:List az} (h:jh b wr v l) (c:af w b):jh w wr v l:=by
 refine⟨ae c h.B,h.O.1,?_⟩;rcases h.O.2 with a|⟨g,cap,f,d,a,e⟩
 ·exact .inl a
 ·exact .inr ⟨g,cap,f,d,Nat.le_trans c.size a,e⟩
theorem xe {w wr W:World} {v:Value} {l:List az} (h:jh w wr v l) (d:Below wr.heap.size wr W) (e:TypeId) (b:Addr) (c:Nat) (x:az) (hc:∀j u,x.aE[j]?=some u->W.cell? (b.add j)=some u) (hl:l.length<=5000):
 ∃a w',(Builtin.append_ #[218,218] e #[v,.slice (some b) 1 c]).run Tryz.prog W= .ok a w'/\jh w w' a (l++[x])/\W.grownBy w' v.ownBlock/\(a.ownBlock=v.ownBlock\/a.ownBlock=some W.heap.size):=by
 obtain⟨i,m,q,r,s⟩:=info_parts Kb;have f:=au h.O d;have hB:=ae h.B d;obtain⟨a,w',t,n,g,_,o⟩:=run_append_own_at (P:=Tryz.prog) W w.heap.size 218 e 181 i _ 7 56 Tryz.underlying218 m q r s rfl oO v l.length _ f b 1 c x.aE (by rfl) hc (az.one x) oM oO hB.size;refine⟨a,w',t,⟨hB.grown g hB.size (λk p=>(f.lt k p).1),?_⟩,g,o⟩;rw[List.length_append,List.flatMap_append,List.flatMap_singleton];exact n
theorem kr {f:Array Oper} {g:List Oper} {b:Oper} {a:Act} {Q:Exit->Act->World->Prop} {w wr W:World} {v:Value} {l:List az} (h:jh w wr v l) (i:Below wr.heap.size wr W) (q:b.guard=none) (s y:Operand)
 (k:b.op= .call {callee:= .builtin .append,args:=#[s,y],argTypes:=#[218,218]}) (hs:a.eval s=v) (e:Addr) (c:Nat) (x:az) (m:a.eval y= .slice (some e) 1 c)
 (hc:∀j u,x.aE[j]?=some u->W.cell? (e.add j)=some u) (hl:l.length<=5000) (n:∀d w',Hid (jh w w' d (l++[x]))->wpList Tryz.prog f Q g (a.put b.dst d) w'):wpList Tryz.prog f Q (b::g) a W:=by
 refine wpList_plain q λK o=>?_;obtain⟨d,w',r,p,t⟩:=xe h i b.type e c x hc hl;unfold Oper.wp execOp;simp only[k,resolve,invoke,builtin,Sem.run_bind,Sem.run_pure,Result.andThen_ok,List.map_toArray,List.map_cons,List.map_nil,hs,m,r];exact o _ _ (n d w' p)
theorem xK {d:Oper} {a:Act} {w wr W:World} {v:Value} {l:List az} (h:jh w wr v l) (f:Below wr.heap.size wr W) (s y:Operand)
 (g:d.op= .call {callee:= .builtin .append,args:=#[s,y],argTypes:=#[218,218]}) (hs:a.eval s=v) (e:Addr) (c:Nat) (x:az) (i:a.eval y= .slice (some e) 1 c)
 (hc:∀j u,x.aE[j]?=some u->W.cell? (e.add j)=some u) (hl:l.length<=5000):∃b w',(execOp a.eval d).run Tryz.prog W= .ok (.value b) w'/\jh w w' b (l++[x])/\W.grownBy w' v.ownBlock/\(b.ownBlock=v.ownBlock\/b.ownBlock=some W.heap.size):=by
 obtain⟨b,w',n,k,m⟩:=xe h f d.type e c x hc hl;refine⟨b,w',?_,k,m⟩;unfold execOp;simp only[g,resolve,invoke,builtin,Sem.run_bind,Sem.run_pure,Result.andThen_ok,List.map_toArray,List.map_cons,List.map_nil,hs,i,n]
theorem xL {f:Array Oper} {S:World->Prop} {K:Act->World->Prop} {r:List (Bool×Nat×Oper)} {k:Nat} {d:Oper} {a:Act} {w wr W:World} {v:Value} {l:List az} (h:jh w wr v l) (i:Below wr.heap.size wr W)
 (z:Region.wanted d (yielded f a.tmps)=true) (s y:Operand)
 (m:d.op= .call {callee:= .builtin .append,args:=#[s,y],argTypes:=#[218,218]}) (hs:a.eval s=v) (e:Addr) (c:Nat) (x:az) (n:a.eval y= .slice (some e) 1 c)
 (hc:∀j u,x.aE[j]?=some u->W.cell? (e.add j)=some u) (hl:l.length<=5000)
 (o:∀b w',jh w w' b (l++[x])->W.grownBy w' v.ownBlock->(b.ownBlock=v.ownBlock\/b.ownBlock=some W.heap.size)->S w'/\bn Tryz.prog f S K r (a.put d.dst b) w'):bn Tryz.prog f S K ((true,k,d)::r) a W:=by
 obtain⟨b,w',A,p,q,t⟩:=xK h i s y m hs e c x n hc hl;have g:=o b w' p q t;exact fD z A g.1 g.2
theorem gL {W:World} {b:Nat} {a:List Value} (h:ak W b a):∀j v,a[j]?=some v->W.cell? ((⟨b,0,none⟩:Addr).add j)=some v:=by
 intro j v c;have hl:j<a.length:=by
  rcases Nat.lt_or_ge j a.length with d|d
  ·exact d
  ·rw[List.getElem?_eq_none d]at c;cases c
 rw[add_plain,Nat.zero_add,h.2 j hl];simp[List.getD,c]
theorem az.Mq (a:az):a.val= .agg #[.int .i64 (a.num:Int),.int .i64 a.sec,.int .i64 (a.run:Int),.bool a.long,.int .i64 (a.size:Int),.int .i64 (a.at_:Int),.int .i64 (a.mode:Int)]:=rfl
theorem ou (W:World) (x:az) (a:TypeId) (b:Nat) (hb:b=W.heap.size):∀j u,x.aE[j]?=some u->(W.alloc (.cells x.aE.toArray a)).cell? ((⟨b,0,none⟩:Addr).add j)=some u:=oC (az.cells W x a b hb)
theorem s9 {a:Act} {e:Oper} {W:World} {b g cap hb:Nat} {p:ByteArray} {C:Nat->Nat->Nat} {q:Operand} (h:SW W b g cap hb p C) (i:e.op= .load 169 q) (f m:Nat) (k:a.eval q= .pointer (some ⟨b,f,none⟩)) (l:f=1+m* 96) (n:m<5):
 (execOp a.eval e).run Tryz.prog W= .ok (.value (.agg (oL m).toArray)) W:=by
 subst l
 have o:=gF (P:=Tryz.prog) W 169 _ ⟨b,1+m* 96,none⟩ (oL m) Tryz.underlying169 rfl (by rw[rq];kernel_rfl) (λj v c=>by
  have hl:j<96:=by
   rcases Nat.lt_or_ge j 96 with d|d
   ·exact d
   ·rw[List.getElem?_eq_none (by rw[rq];exact d)]at c;cases c
  rw[add_plain,Nat.add_assoc];refine h.ct _ _ ?_
  rw[xY m j n hl];exact c)
 unfold execOp;simp only[i,k,Instr.loadAt,Instr.sureAddr,Sem.run_bind,Sem.run_pure,Result.andThen_ok,o]
theorem jV {a:Act} {f:Oper} {W:World} (c:TypeId) (d:TypeDesc) (g:Tryz.prog.underlying c=some d) (i:aggD d=true) {q:Operand} (j:f.op= .load c q) (b:Nat) (e:List Value) (k:(Tryz.prog.info? c).map (·.size)=some e.length) (l:a.eval q= .pointer (some ⟨b,0,none⟩)) (h:ak W b e):
 (execOp a.eval f).run Tryz.prog W= .ok (.value (.agg e.toArray)) W:=by
 have m:=gF (P:=Tryz.prog) W c d ⟨b,0,none⟩ e g i k (gL h);unfold execOp;simp only[j,l,Instr.loadAt,Instr.sureAddr,Sem.run_bind,Sem.run_pure,Result.andThen_ok,m]
theorem ak.grown {W a:World} {b:Nat} {c:List Value} {row:Option Nat} (h:ak W b c) (hg:W.grownBy a row) (f:∀q,row=some q->q≠b):ak a b c:=
 ⟨Nat.lt_of_lt_of_le h.1 hg.size,λi d=>(hg.cell_far ⟨b,i,none⟩ h.1 (λe=>f b e.symm rfl)).trans (h.2 i d)⟩
theorem gr:(Tryz.prog.info? 168).map (·.zero)=some (some (.agg #[.int .i64 0,.int .i64 0,.string ByteArray.empty])):=oK
theorem j3:(Tryz.prog.info? 179).map (·.zero)=some (some (.agg #[.int .i64 0,.int .i64 0])):=oK
theorem dD:(Tryz.prog.info? 179).map (·.size)=some 2:=oK
theorem fW (a b:Int):∀v∈[Value.int .i64 a,.int .i64 b],v.oneCell'=true:=by
 intro v c;simp only[List.mem_cons,List.not_mem_nil,or_false]at c;rcases c with rfl|rfl<;>rfl
theorem DC (at_ m:Nat) (w:World) (t K cap hb:Nat) (p:ByteArray) (C:Nat->Nat->Nat) (h:SW w t K cap hb p C) (cx:at_<p.size) (a9:m<5):
 Calls Tryz.prog 179 #[.pointer (some ⟨t,0,none⟩),.agg #[.int .i64 (at_:Int),.int .i64 (m:Int)]] w
  λe w'=>∃v,e= .returned v/\jh w w' v (bJ C p at_ m 32):=by
 have dv:=h.hp;have cN:=Lib.hid h;have d2:(m:Int)<5:=oO;have d3:at_<=4096:=oO;have d4:at_<=p.size:=oO;have bb:Hid (ak (w.alloc (.cells #[.int .i64 (at_:Int),.int .i64 (m:Int)] 179)) w.heap.size [.int .i64 (at_:Int),.int .i64 (m:Int)]):=ak.new w #[.int .i64 (at_:Int),.int .i64 (m:Int)] _ _ rfl;have bf:Hid (SW (w.alloc (.cells #[.int .i64 (at_:Int),.int .i64 (m:Int)] 179)) t K cap hb p C):=h.below (ax _ _);have b4:Hid (af w (w.alloc (.cells #[.int .i64 (at_:Int),.int .i64 (m:Int)] 179))):=ax _ _;clear h cN;go_enter Tryz.func179,Tryz.ntmps179;go_wp2;generalize w.alloc (.cells #[.int .i64 (at_:Int),.int .i64 (m:Int)] 179)=E at*;have a1:Hid (∀W,af E W->W.cell? ⟨t,0,none⟩=some (.string p)/\W.cell? ⟨w.heap.size,0,none⟩=some (.int .i64 (at_:Int))/\W.cell? ⟨w.heap.size,1,none⟩=some (.int .i64 (m:Int))):=by
  show∀W,_;intro W d;have bz:=bb.out.below d;exact⟨(bf.out.below d).c0,bz.2 0 oS,bz.2 1 oS⟩
 refine yO (af E) [1,2,3,4,5,6,7,8] (ai (Below.refl _ _)) ?_
 repeat refine zO a1.out ?_
 refine ag ?_;have bd:=(a1.out E.drew (ai (Below.refl _ _))).2.2;go_wp2_with(go_at_call 132;refine(eZ m _).mono ?_;rintro e w' ⟨rfl,f⟩;rw[f];clear f)
 have z:Hid (∀W,af E.drew W->W.cell? ⟨t,0,none⟩=some (.string p)/\W.cell? ⟨w.heap.size,0,none⟩=some (.int .i64 (at_:Int))/\W.cell? ⟨w.heap.size,1,none⟩=some (.int .i64 (m:Int))):=λW d=>a1.out W (ae (ai (Below.refl _ _)) d);have bi:Hid (SW E.drew t K cap hb p C):=bf.out.below (ai (Below.refl _ _));have b5:Hid (af w E.drew):=ai b4.out;have b6:Hid (ak E.drew w.heap.size [.int .i64 (at_:Int),.int .i64 (m:Int)]):=bb.out.below (ai (Below.refl _ _));clear bb bf b4 a1 bd;generalize E.drew=u at*;refine yO (af u) [1,2,3,4,5,6,7,8] (ai (Below.refl _ _)) ?_;refine zO z.out ?_;refine zO z.out ?_;refine zO z.out ?_;refine zO z.out ?_;refine zO z.out ?_;refine zO z.out ?_;refine' zV rfl (λW d=>s9 (bi.out.below d) rfl _ m rfl oO a9) ?_
 repeat refine zO z.out ?_
 refine ag ?_;have A:Hid (SW u.drew t K cap hb p C):=bi.out.below (ai (Below.refl _ _));have c5:Hid (af w u.drew):=ai b5.out;have b7:Hid (ak u.drew w.heap.size [.int .i64 (at_:Int),.int .i64 (m:Int)]):=b6.out.below (ai (Below.refl _ _));have bo:Hid (∀W,af u.drew W->W.cell? ⟨w.heap.size,0,none⟩=some (.int .i64 (at_:Int))/\W.cell? ⟨w.heap.size,1,none⟩=some (.int .i64 (m:Int))):=λW d=>(z.out W (ae (ai (Below.refl _ _)) d)).2;have dl:Hid (∀W,af u.drew W->ak W w.heap.size [.int .i64 (at_:Int),.int .i64 (m:Int)]):=λW d=>b7.out.below d;have d5:Hid (w.heap.size<u.drew.heap.size):=World.block_lt_of_cell? _ _ (bo.out u.drew (Below.refl _ _)).1;clear bi b5 z b6 b7;generalize u.drew=x at*;obtain⟨y,b8⟩:∃y,Hid (y=(oL m).toArray):=⟨_,rfl⟩;rw[<-b8.out];obtain⟨q,Z⟩:∃q,Hid (q=p.extract at_ p.size):=⟨_,rfl⟩;rw[<-Z.out];go_wp2;go_loopw [5,31] (λa2 L wr=>∃k:Nat,k<=32/\L= .int .i64 k/\Hid (jh x wr a2 (bJ C p at_ m k))) (λ_ L _=>32-(intOf L).toNat)
 case atStart=>exact⟨0,Nat.zero_le _,rfl,jh.start _ _ (Below.refl _ _)⟩
 case round=>
  obtain⟨k,dx,rfl,a⟩:=hrel;by_cases B:k<32
  ·have F:Hid (y.extract (k* 3) (k* 3+3)=(pr m k).toArray):=by show _=_;rw[b8.out];exact ED m k B
   have o:Hid (bJ C p at_ m (k+1)=bJ C p at_ m k++dU C p at_ m k):=rfl
   have i:Hid (dU C p at_ m k=if bV m k=1 then(if preB p at_ (eJ m k)=true then[⟨k,-1,0,false,an m,at_+(eJ m k).size,m⟩]else[])
    else if bV m k=2 then[⟨k,-1,0,false,an m,at_,modeF m k⟩]
    else if bV m k=3 then optSK p at_ m k (modeF m k) 32
    else if bV m k=4 then[eW C k at_ m (p.size-at_)]
    else[]):=rfl
   have a3:=Lib.hid (rH C p at_ m k);have c6:=jZ m a9 k B;have bq:=pe m k;obtain⟨a4,b1⟩:=bo.out wr a.out.B;have b2:w.heap.size<wr.heap.size:=World.block_lt_of_cell? _ _ a4;obtain⟨g,O⟩:∃g,g=bV m k:=⟨_,rfl⟩;obtain⟨md,a6⟩:∃md,md=modeF m k:=⟨_,rfl⟩;obtain⟨b,a7⟩:∃b,b=eJ m k:=⟨_,rfl⟩;rw[<-O,<-a6,<-a7]at i;unfold pr at F;rw[<-O,<-a6,<-a7]at F;rw[<-a6]at bq;rw[<-a7]at c6;clear O a6 a7;by_cases M:g=1
   ·subst M;cases n:preB p at_ b with
    |true=>
     obtain⟨no,s⟩:∃no:az,no=⟨k,-1,0,false,an m,at_+b.size,m⟩:=⟨_,rfl⟩;have ab:=Lib.hid s;have l:Hid (bJ C p at_ m (k+1)=bJ C p at_ m k++[no]):=by show _=_;rw[o.out,i.out,if_pos rfl,n,if_pos rfl,s]
     have P:Hid (Lib.hasPrefix q.data.toList b.data.toList=true):=by show _=_;rw[Z.out];exact n
     have c2:IntKind.i64.wrap ((at_:Int)+(b.size:Int))=((at_+b.size:Nat):Int):=by rw[aF _ oO oO];omega
     clear n o i A s
     go_wp2_with(first
      |(go_at_call 215;refine(Tryz.strings_HasPrefix _ _ _).mono ?_;rintro e w' ⟨rfl,f⟩;rw[f,P.out];clear f)
      |(with_reducible show wpList _ _ _ (⟨_,Op.index 169 _ _,_,_,_,_⟩::_) _ _;refine dR rfl 169 _ _ rfl 32 168 Tryz.underlying169 _ Tryz.underlying168 rfl 3 di y .i64 k k rfl rfl rfl B _ F.out ?_)
      |(with_reducible show wpList _ _ _ (⟨_,Op.alloc 168,_,_,_,_⟩::_) _ _;refine aM rfl 168 rfl _ gr ?_)
      |(with_reducible show wpList _ _ _ (⟨_,Op.alloc 179,_,_,_,_⟩::_) _ _;refine aM rfl 179 rfl _ j3 ?_)
      |(with_reducible show wpList _ _ _ (⟨_,Op.store 168 _ _,_,_,_,_⟩::_) _ _;refine aR rfl 168 _ _ rfl 168 _ _ rfl rfl di rfl (eX _ _ _) ?_)
      |(with_reducible show wpList _ _ _ (⟨_,Op.store 179 _ _,_,_,_,_⟩::_) _ _;refine aR rfl 179 _ _ rfl 179 _ [_,_] rfl rfl dD rfl (fW _ _) ?_)
      |(with_reducible show wpList _ _ _ (⟨_,Op.load 179 _,_,_,_,_⟩::_) _ _;refine bj rfl 179 _ rfl _ Tryz.underlying179 rfl _ [_,_] dD rfl (gL (ak.new _ #[_,_] _ _ oS)) ?_)
      |(at_builtin;refine kr a.out (ah (ah (ax _ _) _) _) rfl _ _ rfl rfl _ _ no (by rfl) (by rw[ab.out];exact ou _ ⟨k,-1,0,false,an m,at_+b.size,m⟩ _ _ oS) (by have:=a3.out;omega) ?_;intro a5 G N))
     exact⟨⟨k+1,by omega,by go_num,by rw[l.out];exact N.out⟩,by simp[intOf];omega⟩
    |false=>
     have l:Hid (bJ C p at_ m (k+1)=bJ C p at_ m k):=by show _=_;rw[o.out,i.out,if_pos rfl,n,if_neg oS,List.append_nil]
     have P:Hid (Lib.hasPrefix q.data.toList b.data.toList=false):=by show _=_;rw[Z.out];exact n
     clear n o i A
     go_wp2_with(first
      |(go_at_call 215;refine(Tryz.strings_HasPrefix _ _ _).mono ?_;rintro e w' ⟨rfl,f⟩;rw[f,P.out];clear f)
      |(with_reducible show wpList _ _ _ (⟨_,Op.index 169 _ _,_,_,_,_⟩::_) _ _;refine dR rfl 169 _ _ rfl 32 168 Tryz.underlying169 _ Tryz.underlying168 rfl 3 di y .i64 k k rfl rfl rfl B _ F.out ?_)
      |(with_reducible show wpList _ _ _ (⟨_,Op.alloc 168,_,_,_,_⟩::_) _ _;refine aM rfl 168 rfl _ gr ?_)
      |(with_reducible show wpList _ _ _ (⟨_,Op.store 168 _ _,_,_,_,_⟩::_) _ _;refine aR rfl 168 _ _ rfl 168 _ _ rfl rfl di rfl (eX _ _ _) ?_))
     exact⟨⟨k+1,by omega,by go_num,by rw[l.out];exact a.out.below (ax _ _)⟩,by simp[intOf];omega⟩
   have c3:((g:Int)==1)=false:=by rw[beq_eq_false_iff_ne];omega
   by_cases be:g=2
   ·subst be;obtain⟨no,s⟩:∃no:az,no=⟨k,-1,0,false,an m,at_,md⟩:=⟨_,rfl⟩;have ab:=Lib.hid s;have l:Hid (bJ C p at_ m (k+1)=bJ C p at_ m k++[no]):=by show _=_;rw[o.out,i.out,if_neg oO,if_pos rfl,s]
    clear o i A s
    go_wp2_with(first
     |(with_reducible show wpList _ _ _ (⟨_,Op.index 169 _ _,_,_,_,_⟩::_) _ _;refine dR rfl 169 _ _ rfl 32 168 Tryz.underlying169 _ Tryz.underlying168 rfl 3 di y .i64 k k rfl rfl rfl B _ F.out ?_)
     |(with_reducible show wpList _ _ _ (⟨_,Op.alloc 168,_,_,_,_⟩::_) _ _;refine aM rfl 168 rfl _ gr ?_)
     |(with_reducible show wpList _ _ _ (⟨_,Op.store 168 _ _,_,_,_,_⟩::_) _ _;refine aR rfl 168 _ _ rfl 168 _ _ rfl rfl di rfl (eX _ _ _) ?_)
     |(at_builtin;refine kr a.out (ah (ax _ _) _) rfl _ _ rfl rfl _ _ no (by rfl) (by rw[ab.out];exact ou _ ⟨k,-1,0,false,an m,at_,md⟩ _ _ oS) (by have:=a3.out;omega) ?_;intro a5 G N))
    exact⟨⟨k+1,by omega,by go_num,by rw[l.out];exact N.out⟩,by simp[intOf];omega⟩
   have dy:((g:Int)==2)=false:=by rw[beq_eq_false_iff_ne];omega
   by_cases k3:g=3
   ·subst k3;have l:Hid (bJ C p at_ m (k+1)=bJ C p at_ m k++optSK p at_ m k md 32):=by show _=_;rw[o.out,i.out,if_neg oO,if_neg oO,if_pos rfl]
    have b9:Hid (SW (wr.alloc (.cells #[.int .i64 3,.int .i64 (md:Int),.string b] 168)) t K cap hb p C):=(A.out.below a.out.B).below (ax _ _);have D:Hid (ak (wr.alloc (.cells #[.int .i64 3,.int .i64 (md:Int),.string b] 168)) wr.heap.size [.int .i64 3,.int .i64 (md:Int),.string b]):=ak.new _ #[.int .i64 3,.int .i64 (md:Int),.string b] _ _ rfl;have ca:Hid (jh x (wr.alloc (.cells #[.int .i64 3,.int .i64 (md:Int),.string b] 168)) u5 (bJ C p at_ m k)):=a.out.below (ax _ _);have cb:Hid (∀q,u5.ownBlock=some q->q≠wr.heap.size):=λq hq=>by have:=(a.out.O.lt q hq).2;omega
    clear o i A a
    go_wp2_with(first
     |(with_reducible show wpList _ _ _ (⟨_,Op.index 169 _ _,_,_,_,_⟩::_) _ _;refine dR rfl 169 _ _ rfl 32 168 Tryz.underlying169 _ Tryz.underlying168 rfl 3 di y .i64 k k rfl rfl rfl B _ F.out ?_)
     |(with_reducible show wpList _ _ _ (⟨_,Op.alloc 168,_,_,_,_⟩::_) _ _;refine aM rfl 168 rfl _ gr ?_)
     |(with_reducible show wpList _ _ _ (⟨_,Op.store 168 _ _,_,_,_,_⟩::_) _ _;refine aR rfl 168 _ _ rfl 168 _ _ rfl rfl di rfl (eX _ _ _) ?_))
    generalize wr.alloc (.cells #[.int .i64 3,.int .i64 (md:Int),.string b] 168)=G at*;generalize wr.heap.size=r at*;have H:Hid (∀W,af G W->W.cell? ⟨r,1,none⟩=some (.int .i64 (md:Int))):=λW d=>(D.out.below d).2 1 oS;have d7:(md:Int)<5:=oO;refine yO (af G) [1,2,3,4,5,6,7,8] (ai (Below.refl _ _)) ?_;refine zO H.out ?_;refine zO H.out ?_;refine zO H.out ?_;refine zO H.out ?_;refine zO H.out ?_;refine zO H.out ?_;refine' zV rfl (λW d=>s9 (b9.out.below d) rfl _ md rfl oO bq) ?_
    repeat refine zO H.out ?_
    refine ag ?_;have cq:Hid (ak G.drew r [.int .i64 3,.int .i64 (md:Int),.string b]):=D.out.below (ai (Below.refl _ _));have cs:Hid (jh x G.drew u5 (bJ C p at_ m k)):=ca.out.below (ai (Below.refl _ _));clear b9 D ca H;generalize G.drew=c4 at*;obtain⟨S,ce⟩:∃S,Hid (S=(oL md).toArray):=⟨_,rfl⟩;rw[<-ce.out];go_wp2;go_loopw [5,81] (λa2 L wr=>∃j:Nat,j<=32/\L= .int .i64 j/\Hid (jh x wr a2 (bJ C p at_ m k++optSK p at_ m k md j))/\Hid (ak wr r [.int .i64 3,.int .i64 (md:Int),.string b])/\Hid (∀q,a2.ownBlock=some q->q≠r)) (λ_ L _=>32-(intOf L).toNat)
    case atStart=>exact⟨0,Nat.zero_le _,rfl,by show jh _ _ _ _;rw[show optSK p at_ m k md 0=[]from rfl,List.append_nil];exact cs.out,cq.out,cb.out⟩
    case round=>
     clear cs cq cb a4 b1 b2;obtain⟨j,dz,rfl,a,T,ac⟩:=hrel;by_cases av:j<32
     ·have ad:Hid (S.extract (j* 3) (j* 3+3)=(pr md j).toArray):=by show _=_;rw[ce.out];exact ED md j av
      have V:Hid (optSK p at_ m k md (j+1)=optSK p at_ m k md j++mS p at_ m k md j):=rfl;have Q:Hid (mS p at_ m k md j=if bV md j=1/\preB p at_ (eJ md j)=true then[⟨k,(j:Int),0,false,an m+an md,at_+(eJ md j).size,m⟩]else[]):=rfl;have c7:=Lib.hid (s6 p at_ m k md j);have dn:=jZ md bq j av;obtain⟨a4,b1⟩:=bo.out wr a.out.B;have b2:w.heap.size<wr.heap.size:=World.block_lt_of_cell? _ _ a4;obtain⟨g,O⟩:∃g,g=bV md j:=⟨_,rfl⟩;obtain⟨U,ch⟩:∃U,U=modeF md j:=⟨_,rfl⟩;obtain⟨c,a8⟩:∃c,c=eJ md j:=⟨_,rfl⟩;rw[<-O,<-a8]at Q;unfold pr at ad;rw[<-O,<-ch,<-a8]at ad;rw[<-a8]at dn;clear O ch a8;by_cases M:g=1
      ·subst M;cases n:preB p at_ c with
       |true=>
        obtain⟨no,s⟩:∃no:az,no=⟨k,(j:Int),0,false,an m+an md,at_+c.size,m⟩:=⟨_,rfl⟩;have ab:=Lib.hid s;have al:Hid (optSK p at_ m k md (j+1)=optSK p at_ m k md j++[no]):=by show _=_;rw[V.out,Q.out,if_pos ⟨rfl,n⟩,s]
        have P:Hid (Lib.hasPrefix q.data.toList c.data.toList=true):=by show _=_;rw[Z.out];exact n
        have c2:IntKind.i64.wrap ((at_:Int)+(c.size:Int))=((at_+c.size:Nat):Int):=by rw[aF _ oO oO];omega
        have d6:IntKind.i64.wrap ((an m:Int)+(an md:Int))=((an m+an md:Nat):Int):=by have:=fT m;have:=fT md;rw[aF _ oO oO];omega
        have c8:Hid ((bJ C p at_ m k++optSK p at_ m k md j).length<=2000):=by show _<=_;rw[List.length_append];have:=a3.out;have:=c7.out;omega
        clear n V Q s
        go_wp2_with(first
         |(go_at_call 215;refine(Tryz.strings_HasPrefix _ _ _).mono ?_;rintro e w' ⟨rfl,f⟩;rw[f,P.out];clear f)
         |(with_reducible show wpList _ _ _ (⟨_,Op.index 169 _ _,_,_,_,_⟩::_) _ _;refine dR rfl 169 _ _ rfl 32 168 Tryz.underlying169 _ Tryz.underlying168 rfl 3 di S .i64 j j rfl rfl rfl av _ ad.out ?_)
         |(with_reducible show wpList _ _ _ (⟨_,Op.alloc 168,_,_,_,_⟩::_) _ _;refine aM rfl 168 rfl _ gr ?_)
         |(with_reducible show wpList _ _ _ (⟨_,Op.store 168 _ _,_,_,_,_⟩::_) _ _;refine aR rfl 168 _ _ rfl 168 _ _ rfl rfl di rfl (eX _ _ _) ?_)
         |(with_reducible show wpList _ _ _ (⟨_,Op.alloc 179,_,_,_,_⟩::_) _ _;refine aM rfl 179 rfl _ j3 ?_)
         |(with_reducible show wpList _ _ _ (⟨_,Op.store 179 _ _,_,_,_,_⟩::_) _ _;refine aR rfl 179 _ _ rfl 179 _ [_,_] rfl rfl dD rfl (fW _ _) ?_))
        have am:Hid (jh x ((wr.alloc (.cells #[.int .i64 1,.int .i64 (U:Int),.string c] 168)).alloc (.cells #[.int .i64 ((at_:Int)+(c.size:Int)),.int .i64 (m:Int)] 179)) u5 (bJ C p at_ m k++optSK p at_ m k md j)):=a.out.below (ah (ax _ _) _);have D:Hid (ak ((wr.alloc (.cells #[.int .i64 1,.int .i64 (U:Int),.string c] 168)).alloc (.cells #[.int .i64 ((at_:Int)+(c.size:Int)),.int .i64 (m:Int)] 179)) r [.int .i64 3,.int .i64 (md:Int),.string b]):=(T.out.alloc _).alloc _;have a0:Hid (ak ((wr.alloc (.cells #[.int .i64 1,.int .i64 (U:Int),.string c] 168)).alloc (.cells #[.int .i64 ((at_:Int)+(c.size:Int)),.int .i64 (m:Int)] 179)) (wr.heap.size+1) [.int .i64 ((at_:Int)+(c.size:Int)),.int .i64 (m:Int)]):=ak.new _ #[.int .i64 ((at_:Int)+(c.size:Int)),.int .i64 (m:Int)] _ _ oS;have bv:Hid (∀q,u5.ownBlock=some q->q≠r/\q≠wr.heap.size+1):=λq hq=>⟨ac.out q hq,by have:=(a.out.O.lt q hq).2;omega⟩;clear a T ac;generalize(wr.alloc (.cells #[.int .i64 1,.int .i64 (U:Int),.string c] 168)).alloc (.cells #[.int .i64 ((at_:Int)+(c.size:Int)),.int .i64 (m:Int)] 179)=X at*;generalize wr.heap.size+1=ap at*;have J:Hid (∀W,(af x W/\ak W r [.int .i64 3,.int .i64 (md:Int),.string b]/\ak W ap [.int .i64 ((at_:Int)+(c.size:Int)),.int .i64 (m:Int)])->W.cell? ⟨r,1,none⟩=some (.int .i64 (md:Int))):=λW d=>d.2.1.2 1 oS;refine yO (λW=>af x W/\ak W r [.int .i64 3,.int .i64 (md:Int),.string b]/\ak W ap [.int .i64 ((at_:Int)+(c.size:Int)),.int .i64 (m:Int)]) [1,2,3,4,5,6,9,0,7,0,8,0,10,11,12,0,13] ⟨ai am.out.B,D.out.drew,a0.out.drew⟩ ?_;refine zO J.out ?_;refine zO J.out ?_;refine zO J.out ?_;refine zO J.out ?_;refine zO J.out ?_;refine zO J.out ?_;refine' zV rfl (λW d=>jV 179 _ Tryz.underlying179 rfl rfl ap [_,_] dD rfl d.2.2) ?_;refine zZ ?_;refine(eZ md _).mono ?_;rintro e dE ⟨rfl,f⟩;rw[f];clear f;refine⟨_,rfl,⟨ai am.out.B,D.out.drew,a0.out.drew⟩,jO ?_⟩;refine zO J.out ?_;refine' zQ rfl (by go_simp;rfl) ⟨ai am.out.B,D.out.drew,a0.out.drew⟩ ?_;have ci:Hid (jh x X.drew u5 (bJ C p at_ m k++optSK p at_ m k md j)):=am.out.below (ai (Below.refl _ _));have bx:Hid (ak X.drew r [.int .i64 3,.int .i64 (md:Int),.string b]):=D.out.drew;have cv:Hid (ak X.drew ap [.int .i64 ((at_:Int)+(c.size:Int)),.int .i64 (m:Int)]):=a0.out.drew;clear am D a0 J;generalize X.drew=Y at*;refine' zQ (v:= .slice (some ⟨Y.heap.size,0,none⟩) 1 1) (w':=Y.alloc (.cells no.aE.toArray 181)) rfl (by rw[ab.out];go_simp;rfl) ⟨ah ci.out.B _,bx.out.alloc _,cv.out.alloc _⟩ ?_;refine' xL ci.out (ax _ _) rfl _ _ rfl rfl _ _ no rfl (ou _ no _ _ rfl) (by have:=c8.out;omega) ?_;intro a5 b3 bs hg ck;have N:=Lib.hid bs;have dp:Hid (∀q,a5.ownBlock=some q->q≠r):=by
         show∀q,_;intro q hq;rcases ck with e|e
         ·exact(bv.out q (by rw[<-e];exact hq)).1
         ·rw[e]at hq;injection hq with hq;have:=bx.out.1;have e2:(Y.alloc (.cells no.aE.toArray 181)).heap.size=Y.heap.size+1:=by simp
          omega
        have bt:ak b3 r [.int .i64 3,.int .i64 (md:Int),.string b]:=(bx.out.alloc _).grown hg (λq hq=>(bv.out q hq).1);have co:ak b3 ap [.int .i64 ((at_:Int)+(c.size:Int)),.int .i64 (m:Int)]:=(cv.out.alloc _).grown hg (λq hq=>(bv.out q hq).2);refine⟨⟨bs.B,bt,co⟩,?_⟩;have c9:=Lib.hid bt;clear bs hg ck bt co
        repeat refine zU ?_
        refine ag ?_;go_wp2;exact⟨⟨j+1,by omega,by go_num,by rw[al.out,<-List.append_assoc];exact N.out,c9.out,dp.out⟩,by simp[intOf];omega⟩
       |false=>
        have al:Hid (optSK p at_ m k md (j+1)=optSK p at_ m k md j):=by show _=_;rw[V.out,Q.out,n,if_neg oS,List.append_nil]
        have P:Hid (Lib.hasPrefix q.data.toList c.data.toList=false):=by show _=_;rw[Z.out];exact n
        clear n V Q
        go_wp2_with(first
         |(go_at_call 215;refine(Tryz.strings_HasPrefix _ _ _).mono ?_;rintro e w' ⟨rfl,f⟩;rw[f,P.out];clear f)
         |(with_reducible show wpList _ _ _ (⟨_,Op.index 169 _ _,_,_,_,_⟩::_) _ _;refine dR rfl 169 _ _ rfl 32 168 Tryz.underlying169 _ Tryz.underlying168 rfl 3 di S .i64 j j rfl rfl rfl av _ ad.out ?_)
         |(with_reducible show wpList _ _ _ (⟨_,Op.alloc 168,_,_,_,_⟩::_) _ _;refine aM rfl 168 rfl _ gr ?_)
         |(with_reducible show wpList _ _ _ (⟨_,Op.store 168 _ _,_,_,_,_⟩::_) _ _;refine aR rfl 168 _ _ rfl 168 _ _ rfl rfl di rfl (eX _ _ _) ?_))
        exact⟨⟨j+1,by omega,by go_num,by rw[al.out];exact a.out.below (ax _ _),T.out.alloc _,ac.out⟩,by simp[intOf];omega⟩
      have c3:((g:Int)==1)=false:=by rw[beq_eq_false_iff_ne];omega
      have al:Hid (optSK p at_ m k md (j+1)=optSK p at_ m k md j):=by show _=_;rw[V.out,Q.out,if_neg (λh=>M h.1),List.append_nil]
      clear M V Q
      go_wp2_with(first
       |(with_reducible show wpList _ _ _ (⟨_,Op.index 169 _ _,_,_,_,_⟩::_) _ _;refine dR rfl 169 _ _ rfl 32 168 Tryz.underlying169 _ Tryz.underlying168 rfl 3 di S .i64 j j rfl rfl rfl av _ ad.out ?_)
       |(with_reducible show wpList _ _ _ (⟨_,Op.alloc 168,_,_,_,_⟩::_) _ _;refine aM rfl 168 rfl _ gr ?_)
       |(with_reducible show wpList _ _ _ (⟨_,Op.store 168 _ _,_,_,_,_⟩::_) _ _;refine aR rfl 168 _ _ rfl 168 _ _ rfl rfl di rfl (eX _ _ _) ?_))
      exact⟨⟨j+1,by omega,by go_num,by rw[al.out];exact a.out.below (ax _ _),T.out.alloc _,ac.out⟩,by simp[intOf];omega⟩
     ·have da:j=32:=oO;have ds:Hid (jh x wr u5 (bJ C p at_ m k++optSK p at_ m k md 32)):=by rw[<-da];exact a.out
      have bd:=(T.out.2 0 oS);simp only[List.getD,List.getElem?_cons_zero,Option.getD_some]at bd;clear a T ac;go_wp2;exact⟨⟨k+1,by omega,by go_num,by rw[l.out];exact ds.out⟩,by simp[intOf];omega⟩
   have d0:((g:Int)==3)=false:=by rw[beq_eq_false_iff_ne];omega
   by_cases k4:g=4
   ·subst k4;have l:Hid (bJ C p at_ m (k+1)=bJ C p at_ m k++[eW C k at_ m (p.size-at_)]):=by show _=_;rw[o.out,i.out,if_neg oO,if_neg oO,if_neg oO,if_pos rfl]
    have dd:Hid (∀W,af wr W->SW W t K cap hb p C):=λW d=>A.out.below (ae a.out.B d);clear o i A
    go_wp2_with(first
     |(with_reducible show wpList _ _ _ (⟨_,Op.index 169 _ _,_,_,_,_⟩::_) _ _;refine dR rfl 169 _ _ rfl 32 168 Tryz.underlying169 _ Tryz.underlying168 rfl 3 di y .i64 k k rfl rfl rfl B _ F.out ?_)
     |(with_reducible show wpList _ _ _ (⟨_,Op.alloc 168,_,_,_,_⟩::_) _ _;refine aM rfl 168 rfl _ gr ?_)
     |(with_reducible show wpList _ _ _ (⟨_,Op.store 168 _ _,_,_,_,_⟩::_) _ _;refine aR rfl 168 _ _ rfl 168 _ _ rfl rfl di rfl (eX _ _ _) ?_)
     |(with_reducible show wpList _ _ _ (⟨_,Op.load 179 _,_,_,_,_⟩::_) _ _;refine bj rfl 179 _ rfl _ Tryz.underlying179 rfl ⟨w.heap.size,0,none⟩ [.int .i64 (at_:Int),.int .i64 (m:Int)] dD rfl (gL ((dl.out wr a.out.B).alloc _)) ?_)
     |(go_at_call 216;refine(vD k at_ m _ t K cap hb p C (dd.out _ (ax _ _)) cx a9 B).mono ?_;rintro e c4 ⟨rfl,cp⟩;have de:=Lib.hid ((ax _ _).trans (cp.mono oS));clear cp;generalize eW C k at_ m (p.size-at_)=no at*;rw[no.Mq])
     |(at_builtin;refine kr a.out (ah de.out _) rfl _ _ rfl rfl _ _ no (by rfl) (ou _ no _ _ oS) (by have:=a3.out;omega) ?_;intro a5 G N))
    exact⟨⟨k+1,by omega,by go_num,by rw[l.out];exact N.out⟩,by simp[intOf];omega⟩
   have d1:((g:Int)==4)=false:=by rw[beq_eq_false_iff_ne];omega
   have l:Hid (bJ C p at_ m (k+1)=bJ C p at_ m k):=by show _=_;rw[o.out,i.out,if_neg M,if_neg be,if_neg k3,if_neg k4,List.append_nil]
   clear M be k3 k4 o i A
   go_wp2_with(first
    |(with_reducible show wpList _ _ _ (⟨_,Op.index 169 _ _,_,_,_,_⟩::_) _ _;refine dR rfl 169 _ _ rfl 32 168 Tryz.underlying169 _ Tryz.underlying168 rfl 3 di y .i64 k k rfl rfl rfl B _ F.out ?_)
    |(with_reducible show wpList _ _ _ (⟨_,Op.alloc 168,_,_,_,_⟩::_) _ _;refine aM rfl 168 rfl _ gr ?_)
    |(with_reducible show wpList _ _ _ (⟨_,Op.store 168 _ _,_,_,_,_⟩::_) _ _;refine aR rfl 168 _ _ rfl 168 _ _ rfl rfl di rfl (eX _ _ _) ?_))
   exact⟨⟨k+1,by omega,by go_num,by rw[l.out];exact a.out.below (ax _ _)⟩,by simp[intOf];omega⟩
  ·have dk:k=32:=oO;have l:Hid (jh w wr u5 (bJ C p at_ m 32)):=by rw[<-dk];exact a.out.lift c5.out
   clear a A;go_wp2;go_ret;exact⟨_,rfl,l.out⟩
end
section
open Go.RowKit Go.WideMaps Go.Maps
def FZ (W:World) (b n:Nat):Prop:=b<W.heap.size/\∀i,i<n->W.frozen? ⟨b,i,none⟩=false
theorem FZ.below {W a:World} {b n:Nat} (h:FZ W b n) (hb:Below W.heap.size W a):FZ a b n:=⟨Nat.lt_of_lt_of_le h.1 hb.size,λi c=>(hb.frozen h.1).trans (h.2 i c)⟩
theorem FZ.set {W:World} {b n:Nat} (h:FZ W b n) (a:Addr) (u:Value):FZ (W.setCell a u) b n:=⟨by simpa using h.1,λi c=>by rw[World.frozen?_setCell];exact h.2 i c⟩
theorem FZ.grown {W a:World} {b n:Nat} {row:Option Nat} (h:FZ W b n) (hg:W.grownBy a row) (d:some b≠row):FZ a b n:=⟨Nat.lt_of_lt_of_le h.1 hg.size,λi c=>(hg.frozen_far ⟨b,i,none⟩ h.1 d).trans (h.2 i c)⟩
theorem FZ.new (W:World) (xs:Array Value) (a:TypeId) (b n:Nat) (hb:b=W.heap.size):FZ (W.alloc (.cells xs a)) b n:=⟨by simp;omega,λi _=>World.frozen?_alloc_at _ _ _ _ hb⟩
theorem ak.set {W:World} {b:Nat} {a:List Value} (h:ak W b a) (i:Nat) (u:Value) (d:i<a.length):ak (W.setCell ⟨b,i,none⟩ u) b (a.set i u):=by
 refine⟨by simpa using h.1,λj c=>?_⟩;rw[List.length_set]at c;by_cases e:j=i
 ·subst e;rw[World.cell?_setCell_same W _ _ (h.2 j c)];simp[List.getD,d]
 ·rw[World.cell?_setCell_other W _ _ _ (λf=>e (by injection f with _ g;exact g.symm)),h.2 j c];simp[List.getD,Ne.symm e]
def mT (C:Nat->Nat->Nat) (a m x:Nat):Nat->Nat->Nat:=λa' b=>if a'=a/\b=m then x else C a' b
theorem nJ (C:Nat->Nat->Nat) (a m x:Nat):mT C a m x a m=x:=if_pos ⟨rfl,rfl⟩
theorem kQ (C:Nat->Nat->Nat) (a m x a' b:Nat) (h:¬(a'=a/\b=m)):mT C a m x a' b=C a' b:=if_neg h
def qp (C:Nat->Nat->Nat) (a:Nat):Nat:=C a 0+C a 1+C a 2+C a 3+C a 4
theorem I0 {C:Nat->Nat->Nat} {a m x:Nat} (c:m<5) (d:x<C a m):qp (mT C a m x) a<qp C a:=by
 have b:m=0\/m=1\/m=2\/m=3\/m=4:=oO;unfold qp;rcases b with rfl|rfl|rfl|rfl|rfl<;>simp only[mT]<;>simp<;>omega
def tC (C:Nat->Nat->Nat) (L:Nat->List az) (a:Nat):Prop:=∀m,m<5->C a m=1073741824\/∃b∈L m,b.bI C<=C a m
theorem Cn {C C':Nat->Nat->Nat} (h:∀a m,C' a m<=C a m) (b:az):b.bI C'<=b.bI C:=Nat.add_le_add_left (h _ _) _
theorem LG {C:Nat->Nat->Nat} {a m x:Nat} (c:x<=C a m):∀a' b,mT C a m x a' b<=C a' b:=by
 intro a' b;by_cases h:a'=a/\b=m
 ·obtain⟨rfl,rfl⟩:=h;rw[nJ];exact c
 ·rw[kQ _ _ _ _ _ _ h];exact Nat.le_refl _
theorem tC.N5 {C:Nat->Nat->Nat} {L:Nat->List az} {a m:Nat} (h:tC C L a) {b:az} (i:b∈L m) (k:b.bI C<C a m):tC (mT C a m (b.bI C)) L a:=by
 intro d l;have g:=LG (C:=C) (a:=a) (m:=m) (x:=b.bI C) (Nat.le_of_lt k);by_cases e:d=m
 ·subst e;right;exact⟨b,i,by rw[nJ];exact Cn g b⟩
 ·rw[kQ _ _ _ _ _ _ (λh=>e h.2)];rcases h d l with c|⟨f,c,j⟩
  ·exact .inl c
  ·exact .inr ⟨f,c,Nat.le_trans (Cn g f) j⟩
theorem xP {C C':Nat->Nat->Nat} {num at_ m:Nat} {b:az} {n sz:Nat} {lg:Bool} (h:∀a m,at_<a->C a m=C' a m) (hn:0<n) (hb:b.run=0\/at_<b.at_):cQ C num at_ m b n sz lg=cQ C' num at_ m b n sz lg:=by
 have e1:az.bI C ⟨num,-1,n,lg,sz+8* n,at_+n,m⟩=az.bI C' ⟨num,-1,n,lg,sz+8* n,at_+n,m⟩:=by
  unfold az.bI;rw[h _ _ (by show at_<at_+n;omega)]
 unfold cQ;rcases hb with hb|hb
 ·rw[if_pos (.inl hb),if_pos (.inl hb)]
 ·have e2:b.bI C=b.bI C':=by unfold az.bI;rw[h _ _ hb]
  rw[e1,e2]
theorem rJ {C:Nat->Nat->Nat} {num at_ m:Nat} {a:az} {n sz:Nat} {lg:Bool} (hn:0<n) (hb:a.run=0\/at_<a.at_):at_<(cQ C num at_ m a n sz lg).at_:=by
 unfold cQ;split
 ·show at_<at_+n;omega
 ·rename_i h
  rcases hb with hb|hb
  ·exact absurd (.inl hb) h
  ·exact hb
theorem nI {C:Nat->Nat->Nat} {num at_ m:Nat}:∀k,(ff C num at_ m k).run=0\/at_<(ff C num at_ m k).at_
 |0=> .inl rfl
 |k+1=> .inr (rJ oO (nI k))
theorem vp {C C':Nat->Nat->Nat} {num at_ m:Nat} (h:∀a m,at_<a->C a m=C' a m):∀k,ff C num at_ m k=ff C' num at_ m k
 |0=>rfl
 |k+1=>by
  show cQ C _ _ _ _ _ _ _=cQ C' _ _ _ _ _ _ _;rw[xP h oO (nI k),vp h k]
theorem od {C:Nat->Nat->Nat} {num at_ m K:Nat}:∀k,(dH C num at_ m K k).run=0\/at_<(dH C num at_ m K k).at_
 |0=>nI K
 |k+1=> .inr (rJ oO (od k))
theorem tD {C C':Nat->Nat->Nat} {num at_ m K:Nat} (h:∀a m,at_<a->C a m=C' a m):∀k,dH C num at_ m K k=dH C' num at_ m K k
 |0=>vp h K
 |k+1=>by
  show cQ C _ _ _ _ _ _ _=cQ C' _ _ _ _ _ _ _;rw[xP h oO (od k),tD h k]
theorem EP {C C':Nat->Nat->Nat} {p:ByteArray} {at_ m n:Nat} (h:∀a m,at_<a->C a m=C' a m):dU C p at_ m n=dU C' p at_ m n:=by
 unfold dU eW;rw[tD h]
theorem oe {C C':Nat->Nat->Nat} {p:ByteArray} {at_ m:Nat} (h:∀a m,at_<a->C a m=C' a m):∀k,bJ C p at_ m k=bJ C' p at_ m k
 |0=>rfl
 |k+1=>by
  unfold bJ;rw[oe h k,EP h]
theorem Hy {C:Nat->Nat->Nat} {num at_ m K:Nat}:∀k,at_<=(dH C num at_ m K k).at_:=by
 have a:∀k,at_<=(ff C num at_ m k).at_:=λk=>by
  cases k with
  |zero=>exact Nat.le_refl _
  |succ k=>exact Nat.le_of_lt (rJ oO (nI k))
 intro k;cases k with
 |zero=>exact a K
 |succ k=>exact Nat.le_of_lt (rJ oO (od k))
theorem L3 {C:Nat->Nat->Nat} {p:ByteArray} {at_ m n:Nat} {b:az} (a:b∈dU C p at_ m n):at_<=b.at_:=by
 unfold dU at a;split at a
 ·split at a
  ·rw[List.mem_singleton]at a;subst a;exact Nat.le_add_right _ _
  ·cases a
 split at a
 ·rw[List.mem_singleton]at a;subst a;exact Nat.le_refl _
 split at a
 ·have key:∀k,b∈optSK p at_ m n (modeF m n) k->at_<=b.at_:=by
   intro k
   induction k with
   |zero=>intro h;cases h
   |succ k c=>
    intro h;unfold optSK at h;rw[List.mem_append]at h;rcases h with h|h
    ·exact c h
    ·unfold mS at h;split at h
     ·rw[List.mem_singleton]at h;subst h;exact Nat.le_add_right _ _
     ·cases h
  exact key 32 a
 split at a
 ·rw[List.mem_singleton]at a;subst a;exact Hy _
 ·cases a
theorem yM {C:Nat->Nat->Nat} {p:ByteArray} {at_ m:Nat} {a:az}:∀k,a∈bJ C p at_ m k->at_<=a.at_:=by
 intro k
 induction k with
 |zero=>intro h;cases h
 |succ k b=>
  intro h;unfold bJ at h;rw[List.mem_append]at h;rcases h with h|h
  ·exact b h
  ·exact L3 h
theorem uk {p a:ByteArray} {at_:Nat} (h:preB p at_ a=true) (b:at_<=p.size):at_+a.size<=p.size:=by
 unfold preB Lib.hasPrefix at h;rw[List.isPrefixOf_iff_prefix]at h;have c:=h.length_le;have e1:a.data.toList.length=a.size:=by simp
 have e2:(p.extract at_ p.size).data.toList.length=p.size-at_:=by
  show(p.extract at_ p.size).data.toList.length=_;rw[Array.length_toList];show(p.extract at_ p.size).size=_;rw[ByteArray.size_extract];omega
 omega
theorem Mo {C:Nat->Nat->Nat} {p:ByteArray} {at_ m n:Nat} (g:at_<p.size) (e:p.size<=4096) (c:m<5) {b:az} (a:b∈dU C p at_ m n):okO p b:=by
 have i:=fT m;unfold dU at a;split at a
 ·split at a
  ·rename_i j d
   rw[List.mem_singleton]at a;subst a;exact⟨uk d oO,c,by show an m<=_;omega,by show 0<=_;omega⟩
  ·cases a
 split at a
 ·rw[List.mem_singleton]at a;subst a;exact⟨by show at_<=_;omega,pe _ _,by show an m<=_;omega,by show 0<=_;omega⟩
 split at a
 ·have key:∀k,b∈optSK p at_ m n (modeF m n) k->okO p b:=by
   intro k
   induction k with
   |zero=>intro h;cases h
   |succ k f=>
    intro h;unfold optSK at h;rw[List.mem_append]at h;rcases h with h|h
    ·exact f h
    ·unfold mS at h;split at h
     ·rename_i d
      rw[List.mem_singleton]at h;subst h;have l:=fT (modeF m n);exact⟨uk d.2 oO,c,by show an m+an (modeF m n)<=_;omega,by show 0<=_;omega⟩
     ·cases h
  exact key 32 a
 split at a
 ·rw[List.mem_singleton]at a;subst a;unfold eW;exact sJ _ oO c e oO _ oO
 ·cases a
theorem qt {C:Nat->Nat->Nat} {p:ByteArray} {at_ m:Nat} (b:at_<p.size) (c:p.size<=4096) (d:m<5) {a:az}:∀k,a∈bJ C p at_ m k->okO p a:=by
 intro k
 induction k with
 |zero=>intro h;cases h
 |succ k e=>
  intro h;unfold bJ at h;rw[List.mem_append]at h;rcases h with h|h
  ·exact e h
  ·exact Mo b c d h
theorem sD:∀(l:List az) (j k:Nat) (a:az),l[j]?=some a->k<7->(l.flatMap az.aE)[j* 7+k]?=a.aE[k]?
 |[],j,k,a,h,b=>by simp at h
 |x::l,0,k,a,h,b=>by
  simp only[List.getElem?_cons_zero,Option.some.injEq]at h;subst h;rw[List.flatMap_cons,List.getElem?_append_left (by show 0* 7+k<7;omega)];simp
 |x::l,j+1,k,a,h,b=>by
  rw[List.flatMap_cons,List.getElem?_append_right (by show 7<=_;omega)];rw[<-sD l j k a (by simpa using h) b];congr 1;show(j+1)* 7+k-7=_;omega
structure SQ (w:World) (b a cap hb:Nat) (p:ByteArray) (C:Nat->Nat->Nat):Prop where
 S:SW w b a cap hb p C
 F:FZ w a (5* (p.size+1))
 n1:b≠a
 n2:hb≠b
 n3:hb≠a
theorem SQ.below {w W:World} {a b cap hb:Nat} {p:ByteArray} {C:Nat->Nat->Nat} (h:SQ w a b cap hb p C) (c:Below w.heap.size w W):SQ W a b cap hb p C:=⟨h.S.below c,h.F.below c,h.n1,h.n2,h.n3⟩
theorem SQ.set {w:World} {c d cap hb:Nat} {p:ByteArray} {C:Nat->Nat->Nat} (h:SQ w c d cap hb p C) (a m x:Nat) (o:a<=p.size) (q:m<5) (k:x<=1073741824):
 SQ (w.setCell ⟨d,a* 5+m,none⟩ (.int .i64 (x:Int))) c d cap hb p (mT C a m x):=by
 have hs:=h.S;have f:∀i,(w.setCell ⟨d,a* 5+m,none⟩ (.int .i64 (x:Int))).cell? ⟨c,i,none⟩=w.cell? ⟨c,i,none⟩:=λi=>World.cell?_setCell_other w _ _ _ (λe=>h.n1 (by injection e with e1;exact e1.symm));refine⟨⟨by simpa using hs.lt,by rw[f];exact hs.c0,λi v l=>by rw[f];exact hs.ct i v l,by rw[f];exact hs.cc,by rw[f];exact hs.cm,by simpa using hs.cl,λa' b g j=>?_,hs.hc,hs.hp,λa' b=>?_⟩,h.F.set _ _,h.n1,h.n2,h.n3⟩
 ·by_cases e:a'=a/\b=m
  ·obtain⟨rfl,rfl⟩:=e;rw[World.cell?_setCell_same w _ _ (hs.cz a' b g j),nJ]
  ·rw[World.cell?_setCell_other w _ _ _ (λn=>e (by injection n with _ r;omega)),hs.cz a' b g j,kQ _ _ _ _ _ _ e]
 ·by_cases e:a'=a/\b=m
  ·obtain⟨rfl,rfl⟩:=e;rw[nJ];exact k
  ·rw[kQ _ _ _ _ _ _ e];exact hs.b a' b
theorem SQ.grown {w W:World} {b c cap hb:Nat} {p:ByteArray} {C:Nat->Nat->Nat} (h:SQ w b c cap hb p C) {g:Nat} (hg:w.grownBy W (some g)) (j:g≠b) (f:g≠c):SQ W b c cap hb p C:=by
 have hs:=h.S;have d:∀i,W.cell? ⟨b,i,none⟩=w.cell? ⟨b,i,none⟩:=λi=>hg.cell_far ⟨b,i,none⟩ hs.lt (λe=>j (by injection e with e;exact e.symm));have k:∀i,W.cell? ⟨c,i,none⟩=w.cell? ⟨c,i,none⟩:=λi=>hg.cell_far ⟨c,i,none⟩ hs.cl (λe=>f (by injection e with e;exact e.symm));exact⟨⟨Nat.lt_of_lt_of_le hs.lt hg.size,by rw[d];exact hs.c0,λi v l=>by rw[d];exact hs.ct i v l,by rw[d];exact hs.cc,by rw[d];exact hs.cm,Nat.lt_of_lt_of_le hs.cl hg.size,λa m n o=>by rw[k];exact hs.cz a m n o,hs.hc,hs.hp,hs.b⟩,h.F.grown hg (λe=>f (by injection e with e;exact e.symm)),h.n1,h.n2,h.n3⟩
theorem Ms:laidOutB Tryz.prog=true:=oK
theorem Ni:(179:TypeId)<Tryz.prog.types.size:=of_decide_eq_true oK
theorem MD:(match Tryz.prog.underlying 179 with|some (.array _ _)|some (.struct _)=>true|_=>false)=true:=oK
theorem AJ:Keyed Tryz.prog 179:=Keyed.of_law (deep_law_laid Ms (m:=3) oO Ni oK MD)
theorem Iv:Tryz.prog.keyType 179=true:=oK
theorem D2:Tryz.prog.cellsOf 179=2:=oK
theorem J2:Tryz.prog.cellsOf 3=1:=oK
theorem Mt:Tryz.prog.types.size+1=(Tryz.prog.types.size-2)+3:=by
 have h:2<=Tryz.prog.types.size:=of_decide_eq_true oK;omega
theorem Hr (n:Nat) (a:Int) (h:(Lit.int .i64 a).wf=true):Tryz.prog.keyLits (n+1) 3 [.int .i64 a]=some [.int .i64 a]:=by
 simp[Program.keyLits,Tryz.underlying3,h]
def KT (a m:Nat):Lit:= .string (keyBytes [.int .i64 (a:Int),.int .i64 (m:Int)])
theorem xw (a m:Nat) (f:a<=9223372036854775807) (g:m<=9223372036854775807):keyOf Tryz.prog 179 (.agg #[.int .i64 (a:Int),.int .i64 (m:Int)])=some (KT a m):=by
 have c:(Lit.int .i64 (a:Int)).wf=true:=WalkArith.wf_i64 oO;have d:(Lit.int .i64 (m:Int)).wf=true:=WalkArith.wf_i64 oO;unfold keyOf;have b:=Tryz.underlying179;have e:(Value.agg #[.int .i64 (a:Int),.int .i64 (m:Int)]).formed Tryz.prog 179=true:=by simp[Value.formed,b,D2]
 rw[b];simp only[Iv,e,Bool.and_self,if_true];rw[Mt];generalize Tryz.prog.types.size-2=n;have hl:Tryz.prog.keyLits (n+3) 179 [.int .i64 (a:Int),.int .i64 (m:Int)]=some [.int .i64 (a:Int),.int .i64 (m:Int)]:=by
  unfold Program.keyLits;rw[b];dsimp only;rw[if_pos (by rw[D2];exact⟨rfl,by kernel_rfl⟩)];simp only[List.mapM_cons,List.mapM_nil,J2,List.drop_zero,List.drop_succ_cons,List.take_succ_cons,List.take_zero,Hr _ _ c,Hr _ _ d];rfl
 rw[show(Value.agg #[.int .i64 (a:Int),.int .i64 (m:Int)]).cells.toList=[.int .i64 (a:Int),.int .i64 (m:Int)]from rfl,hl];rfl
theorem Mf {a m a' b:Nat} (f:a<=9223372036854775807) (g:m<=9223372036854775807) (c:a'<=9223372036854775807) (d:b<=9223372036854775807) (h:KT a m=KT a' b):a=a'/\m=b:=by
 have e:=xw a m f g;have i:=xw a' b c d;rw[h]at e;have c:=AJ.inj e i;have d:(a:Int)=a'/\(m:Int)=b:=by simpa using c
 omega
def IP (v:Value):Option (DataW Value×List MemPlace):=some (.held v,[])
abbrev F3:Value:=(az.val ⟨0,0,0,false,0,0,0⟩)
theorem K9 (w:World):(zeroValue 181).run Tryz.prog w= .ok F3 w:=oK
def cO (w:World) (hb d:Nat) (c:Nat->Nat->Option az):Prop:=
 ∃D:DataW Value,Maps.IsMap D/\w.ownsMap Tryz.prog 179 IP hb d D/\∀a m b,a<=4096->m<5->c a m=some b->D.atKey (KT a m) (.held F3)= .held b.val
theorem cO.below {w W:World} {hb c:Nat} {a:Nat->Nat->Option az} (h:cO w hb c a) (d:Below w.heap.size w W):cO W hb c a:=by
 obtain⟨D,e,f,g⟩:=h;refine⟨D,e,?_,g⟩;obtain⟨i,clock,b,F,hs,j⟩:=f;exact⟨i,clock,(d.block hb ((Array.getElem?_eq_some_iff.1 b).1)).trans b,F,hs,j⟩
theorem cO.set {w:World} {hb c:Nat} {b:Nat->Nat->Option az} (h:cO w hb c b) {a:Addr} (g:hb≠a.block) (u:Value):cO (w.setCell a u) hb c b:=by
 obtain⟨D,d,e,f⟩:=h;exact⟨D,d,e.setCell g u,f⟩
theorem cO.vx {w:World} {hb g i:Nat} {c d:Nat->Nat->Option az} (h:cO w hb g c) (hc:g<=i) (j:∀a m b,a<=4096->m<5->d a m=some b->c a m=some b):cO w hb i d:=by
 obtain⟨D,k,l,n⟩:=h;exact⟨D,k,l.mono hc,λa m b e f o=>n a m b e f (j a m b e f o)⟩
theorem cO.lt {w:World} {hb c:Nat} {a:Nat->Nat->Option az} (h:cO w hb c a):hb<w.heap.size:=by
 obtain⟨D,d,b,e⟩:=h;exact b.lt
def wi (c:Nat->Nat->Option az) (a m:Nat) (d:az):Nat->Nat->Option az:=λa' b=>if a'=a/\b=m then some d else c a' b
theorem cO.put {w:World} {hb d:Nat} {f:Nat->Nat->Option az} (h:cO w hb d f) (a m:Nat) (c:az) (t:a<=4096) (u:m<5) (hc:d<maxLen):
 ∃w',(Instr.mapUpdate 173 (.map (some hb)) (.agg #[.int .i64 (a:Int),.int .i64 (m:Int)]) c.val).run Tryz.prog w= .ok () w'/\cO w' hb (d+1) (wi f a m c)/\w.grownBy w' (some hb):=by
 obtain⟨D,g,k,l⟩:=h;have i:=xw a m oO oO;obtain⟨w',s,n,o⟩:=k.update AJ Tryz.underlying173 hc i (show IP c.val=some (.held c.val,[])from rfl);refine⟨w',s,⟨_,g.put _ _,n,λa' j p q r b=>?_⟩,o⟩;by_cases e:a'=a/\j=m
 ·obtain⟨rfl,rfl⟩:=e;rw[Maps.atKey_put_same g (AJ.key i)];unfold wi at b;rw[if_pos ⟨rfl,rfl⟩]at b;rw[Option.some.inj b]
 ·rw[Maps.atKey_put_other]
  ·refine l a' j p q r ?_;unfold wi at b;rwa[if_neg e]at b
  ·intro e2;exact e (Mf oO oO oO oO e2)
theorem cO.lookup {w:World} {hb n:Nat} {c:Nat->Nat->Option az} (h:cO w hb n c) (a m:Nat) (b:az) (f:a<=4096) (g:m<5) (i:c a m=some b):
 (Instr.lookup 173 (.map (some hb)) (.agg #[.int .i64 (a:Int),.int .i64 (m:Int)]) false).run Tryz.prog w= .ok b.val w:=by
 obtain⟨D,p,j,k⟩:=h;have l:=xw a m oO oO;obtain⟨v,ps,o,d⟩:=j.lookup AJ Tryz.underlying173 (K9 w) (show IP F3=some (.held F3,[])from rfl) l;rw[k a m b f g i]at d;have e:v=b.val:=by
  exact DataW.held.inj (Prod.mk.inj (Option.some.inj d)).1
 rw[o,e]
end
end Go.Proofs.YtmnlkganmgcpbaaGreatDoor
