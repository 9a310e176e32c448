import Derived.Test.YtmnlkganmgcpbaaGreatDoorQe2
import Derived.Laws.CopyOwn
import Derived.Laws.CopyRow
import Derived.Deep.WholeRow
import Derived.Maps.Views
import Derived.Maps.OwnSet
import Derived.DeepKeys4
set_option maxRecDepth 100000
set_option maxHeartbeats 4000000
set_option linter.unusedVariables false
set_option linter.unusedSectionVars false
set_option linter.unusedSimpArgs false
namespace Go.Proofs.YtmnlkganmgcpbaaGreatDoor
theorem ka (a:Nat) (b:a<2^62):(BitVec.ofInt 64 (a:Int)).toNat=a:=by
 rw[BitVec.ofInt_natCast,BitVec.toNat_ofNat];exact Nat.mod_eq_of_lt oO
theorem gJ (a b:Nat) (c:a<2^62) (hb:b<2^62):bits .xor .i64 (a:Int) (b:Int)=((a^^^b:Nat):Int):=by
 have d:a^^^b<2^62:=Nat.xor_lt_two_pow c hb;show IntKind.i64.wrap ((BitVec.ofInt 64 (a:Int)^^^BitVec.ofInt 64 (b:Int)).toNat:Int)=_;rw[BitVec.toNat_xor,ka a c,ka b hb,IntKind.wrap_i64];omega
theorem Bs (a b:Nat) (c:a<2^62) (hb:b<2^62):bits .and .i64 (a:Int) (b:Int)=((a&&&b:Nat):Int):=by
 have d:a&&&b<2^62:=Nat.and_lt_two_pow _ hb;show IntKind.i64.wrap ((BitVec.ofInt 64 (a:Int)&&&BitVec.ofInt 64 (b:Int)).toNat:Int)=_;rw[BitVec.toNat_and,ka a c,ka b hb,IntKind.wrap_i64];omega
theorem Cg (a b:Int) (c:0<=a) (e:a<4611686018427387904) (d:0<=b) (f:b<4611686018427387904):bits .xor .i64 a b=((a.toNat^^^b.toNat:Nat):Int):=by
 obtain⟨A,rfl⟩:=Int.eq_ofNat_of_zero_le c;obtain⟨B,rfl⟩:=Int.eq_ofNat_of_zero_le d;simpa using gJ A B oO oO
theorem lI (a:Nat) (b:a<2^62):bits .and .i64 (a:Int) 1=((a%2:Nat):Int):=by
 have:=Bs a 1 b oD;rw[Nat.and_one_is_mod]at this;exact this
section
open Go.RowKit
def fP (v i:Nat):Bool:=v/2^i%2==1
def lowF (v n:Nat):Nat->List Bool
 |0=>[]
 |k+1=>lowF v n k++[fP v (n-1-k)]
def aH (v n:Nat):List Bool:=lowF v n n
theorem oR (v n k:Nat):(lowF v n k).length=k:=by
 induction k with
 |zero=>rfl
 |succ k a=>unfold lowF;rw[List.length_append,a];rfl
theorem yf (v i:Nat) (b:v<=1000000000000):(bits BinOp.and IntKind.i64 ((v:Int)/2^i) 1==1)=fP v i:=by
 have e:((v:Int)/2^i)=((v/2^i:Nat):Int):=by simp
 have a:v/2^i<2^62:=Nat.lt_of_le_of_lt (Nat.div_le_self _ _) oO;rw[e,lI _ a];unfold fP;generalize v/2^i%2=x;by_cases h:x=1
 ·subst h;rfl
 ·rw[beq_eq_false_iff_ne.2 h,beq_eq_false_iff_ne];omega
theorem mg (base:Nat) (a:List Bool) (u:Value) (v n:Nat) (w:World) (z:v<=1000000000000) (hn:n<=62) (hl:a.length<=100000000) (hb:base<=w.heap.size) (m:w.ownsRow base 4 1 u a.length (a.map vB)):
 Calls Tryz.prog 108 #[u,.int .i64 v,.int .i64 n] w λe w'=>∃o,e= .returned o/\w'.ownsRow base 4 1 o (a++aH v n).length ((a++aH v n).map vB)/\Below base w w':=by
 obtain⟨A,B,F,G,H⟩:=info_parts fe;have C:=Lib.hid m;clear m;go_enter Tryz.func108,Tryz.ntmps108;go_wp2;go_loopw [0,7] (λD b wr=>∃(k:Nat) (j:Int),k<=n/\b= .int .i64 j/\Hid (j=(n:Int)-1-k)/\Hid (Below base w wr)/\Hid (wr.ownsRow base 4 1 D (a++lowF v n k).length ((a++lowF v n k).map vB))) (λ_ b _=>(intOf b+1).toNat)
 case atStart=>exact⟨0,_,Nat.zero_le _,rfl,by show _=_;omega,Below.refl _ _,by show World.ownsRow _ _ _ _ _ _ _;rw[show lowF v n 0=[]from rfl,List.append_nil];exact C.out⟩
 case round=>
  obtain⟨k,j,M,rfl,p,c,g⟩:=hrel;by_cases O:k<n
  ·obtain⟨i,s⟩:∃i,i=n-1-k:=⟨_,rfl⟩;obtain rfl:j=(i:Int):=by have:=p.out;omega
   have r:=Lib.hid s;have P:i<=61:=oO;clear s;have S:=yf v i z;have J:Hid (lowF v n (k+1)=lowF v n k++[fP v i]):=by show _=_;rw[r.out];rfl
   have t:Hid ((a++lowF v n k).length<=100000062):=by show _<=_;rw[List.length_append,oR];omega
   generalize fP v i=y at*;have l:Hid (base<=wr.heap.size):=Nat.le_trans hb c.out.size;go_wp2_with(at_builtin;refine aD (f:=vB) (d:=false) jS rfl _ _ _ rfl base 4 A _ 1 Tryz.underlying26 B F G H rfl _ _ (a++lowF v n k) rfl (pa g.out _) (some ⟨wr.heap.size,0,none⟩) 1 1 [y] rfl rfl (RG.one _ _ _ _ rfl) (by unfold maxLen;have:=t.out;omega) (by have:=t.out;omega) (by have:=l.out;simp;omega) ?_;intro N E x hg;have K:Hid (Below base w E):=((c.out.alloc l.out _).grown hg (by have:=l.out;simp;omega) (λq hq=>(g.out.lt q hq).1));have L:=Lib.hid x;clear x hg)
   exact⟨⟨k+1,_,by omega,rfl,by have:=r.out;show _=_;omega,K.out,by
    show World.ownsRow _ _ _ _ _ _ _;rw[J.out,<-List.append_assoc];have e1:(a++lowF v n k++[y]).length=(a++lowF v n k).length+1:=List.length_append
    rw[e1];exact L.out⟩,by simp[intOf]⟩
  ·obtain rfl:k=n:=oO;have Q:decide ((0:Int)<=j)=false:=by have:=p.out;simp;omega
   go_wp2;go_ret;exact⟨_,rfl,g.out,c.out⟩
theorem FQ:(Tryz.prog.info? 4).map (·.size)=some 1:=oK
theorem bm (v n:Nat):(aH v n).length=n:=oR v n n
theorem Bg (v n:Nat) (w:World) (f:v<=1000000000000) (hn:n<=62):
 Calls Tryz.prog 59 #[.slice none 0 0,.int .i64 v,.int .i64 n] w (RT vB false w (aH v n,0)):=by
 obtain⟨g,i,j,k,l⟩:=info_parts fe;have r:∀w1:World,(Builtin.copy_ #[26,26] 3 #[.slice (some ⟨w.heap.size,0,none⟩) 0 n,.slice none 0 0]).run Tryz.prog w1= .ok (goInt 0) w1:=λw1=>run_copy_none w1 _ _ _ 4 _ _ _ _ _ _ Tryz.underlying26 FQ oS;go_enter Tryz.func59,Tryz.ntmps59
 go_wp2_with(first
  |(at_make;refine wpList_make_own _ rfl _ _ _ rfl w.heap.size 4 g _ 1 Tryz.underlying26 i j k .i64 .i64 _ n rfl rfl (by first|rfl|omega) (by rw[l];omega) oM (Nat.le_refl _) ?_;intro w1 d hg;have m:=Lib.hid d;have a:Hid (Below w.heap.size w w1):=(Below.refl _ _).grown hg (Nat.le_refl _) (λq hq=>by cases hq);clear d hg)
  |(go_at_call 108;refine(mg w.heap.size [] _ v n _ f hn oS a.out.size m.out).mono ?_;rintro e w2 ⟨u2,rfl,b,c⟩;have o:=Lib.hid b;have p:=Lib.hid c;clear b c))
 go_ret2
 exact RT.mk rfl (by have h:=o.out;rw[List.nil_append]at h;exact SG.bU h) (a.out.trans p.out)
def numF (b:List Bool) (at_:Nat):Nat->Nat
 |0=>0
 |k+1=>2* numF b at_ k+(if b.getD (at_+k) false then 1 else 0)
theorem rM (b:List Bool) (k j:Nat):numF b k j<2^j:=by
 induction j with
 |zero=>simp[numF]
 |succ j a=>
  have:(if b.getD (k+j) false then 1 else 0)<=1:=by split<;>omega
  show 2* numF b k j+(if b.getD (k+j) false then 1 else 0)<2^(j+1);rw[Nat.pow_succ];omega
theorem KN (x:Nat) (a:x<=2199023255552):bits BinOp.or IntKind.i64 ((x:Int)* 2) 1=((2* x+1:Nat):Int):=by
 have e:((x:Int)* 2)=((2* x:Nat):Int):=oO;have e2:2* x|||1=2* x+1:=by
  have:=Nat.two_pow_add_eq_or_of_lt (i:=1) (b:=1) oD x;simpa using this.symm
 rw[e];show IntKind.i64.wrap ((BitVec.ofInt 64 ((2* x:Nat):Int)|||BitVec.ofInt 64 ((1:Nat):Int)).toNat:Int)=_;rw[BitVec.toNat_or,ka _ oO,ka 1 oD,e2,IntKind.wrap_i64];omega
theorem D2 (A:Option Addr) (n c:Nat) (b:List Bool) (w:World) (hn:n<=40) (hb:SR vB false w A n c b):
 Calls Tryz.prog 109 #[.slice A n c] w λe w'=>e= .returned (.int .i64 ((numF b 0 n:Nat):Int))/\w'=w:=by
 have o:=Lib.hid hb;have i:Hid (n=b.length):=hb.hn;clear hb;go_enter Tryz.func109,Tryz.ntmps109;go_wp2;go_loop [3,8] (λvv f=>∃k x:Nat,k<=n/\f= .int .i64 k/\vv= .int .i64 x/\x<=2199023255552/\Hid (x=numF b 0 k)) (λ_ f=>n-(intOf f).toNat)
 case atStart=>exact⟨0,0,Nat.zero_le _,rfl,rfl,by omega,rfl⟩
 case round=>
  obtain⟨k,x,t,rfl,rfl,p,j⟩:=hrel;by_cases s:k<n
  ·obtain⟨u,rfl,B,m⟩:=o.out.rd (by rw[<-i.out];omega);have z:=m k (by rw[<-i.out];exact s);clear m;have l:Hid (∀y,b.getD k false=y->numF b 0 (k+1)=2* x+(if y then 1 else 0)):=by
    show∀y,_;rintro y rfl;rw[j.out];show 2* _+(if b.getD (0+k) false then 1 else 0)=_;rw[Nat.zero_add]
   generalize b.getD k false=y at*;cases y with
   |true=>
    have v:=KN x p;have a:=Lib.hid (l.out true rfl);have g:2* x+1<=2199023255552:=by
     have d:=rM b 0 (k+1);rw[a.out]at d;have q:2^(k+1)<=2^40:=Nat.pow_le_pow_right oO oO;have r:(2:Nat)^40=1099511627776:=by decide
     simp only[if_true]at d;omega
    go_wp2;exact⟨⟨k+1,2* x+1,by omega,by go_num,rfl,g,a.out.symm⟩,by simp[intOf];omega⟩
   |false=>
    have a:=Lib.hid (l.out false rfl);have g:2* x<=2199023255552:=by
     have d:=rM b 0 (k+1);rw[a.out]at d;have q:2^(k+1)<=2^40:=Nat.pow_le_pow_right oO oO;have r:(2:Nat)^40=1099511627776:=by decide
     omega
    go_wp2;exact⟨⟨k+1,2* x,by omega,by go_num,by go_num,g,a.out.symm⟩,by simp[intOf];omega⟩
  ·obtain rfl:k=n:=oO;go_wp2;go_ret;exact⟨by rw[<-j.out];rfl,rfl⟩
theorem RG.drop {α:Type} {f:α->Value} {d:α} {w:World} {a:Addr} {l:List α} (h:RG f d w (some a) l) (k:Nat):RG f d w (some (a.add k)) (l.drop k):=λhn=>by
 rw[List.length_drop]at hn;obtain⟨i,e,b,c⟩:=h oO;injection e with e;subst e;refine⟨_,rfl,by rw[aV];exact b,λj g=>?_⟩;rw[List.length_drop]at g;rw[DZ,c (k+j) oO];simp[List.getD]
theorem RG.take {α:Type} {f:α->Value} {d:α} {w:World} {A:Option Addr} {l:List α} (h:RG f d w A l) (k:Nat):RG f d w A (l.take k):=λhn=>by
 rw[List.length_take]at hn;obtain⟨a,e,b,c⟩:=h oO;refine⟨a,e,b,λj g=>?_⟩;rw[List.length_take]at g;rw[c j oO];simp only[List.getD];rw[List.getElem?_take_of_lt oO]
theorem EV (b:List Bool) (k n:Nat):∀j,numF (b.drop k) n j=numF b (k+n) j:=by
 intro j
 induction j with
 |zero=>rfl
 |succ j a=>
  show 2* numF (b.drop k) n j+(if(b.drop k).getD (n+j) false then 1 else 0)=2* numF b (k+n) j+(if b.getD (k+n+j) false then 1 else 0);rw[a];congr 2;simp[List.getD,Nat.add_assoc]
theorem FR (b:List Bool) (k m:Nat):∀j,k+j<=m->numF (b.take m) k j=numF b k j:=by
 intro j
 induction j with
 |zero=>intro _;rfl
 |succ j a=>
  intro h;show 2* numF (b.take m) k j+(if(b.take m).getD (k+j) false then 1 else 0)=2* numF b k j+(if b.getD (k+j) false then 1 else 0);rw[a oO];congr 2;simp only[List.getD];rw[List.getElem?_take_of_lt oO]
theorem SR.drop {α:Type} {f:α->Value} {d:α} {w:World} {A A':Option Addr} {n c m c':Nat} {l:List α} (h:SR f d w A n c l) (i:m<=n) (b:n=m\/∃a,A=some a/\A'=some (a.add m)) (hc:c'=c-m):SR f d w A' (n-m) c' (l.drop m):=by
 have hn:=h.hn;have j:=h.hc;have k:=h.hm;refine⟨by rw[List.length_drop,<-hn],by omega,by omega,?_⟩;rcases b with e|⟨a,rfl,rfl⟩
 ·intro g;rw[List.length_drop]at g;omega
 ·exact h.rd.drop m
def pn (s w:Nat):List Bool:=if w/2=0\/w/2=(2^s-1)/2 then aH (w/2) (s-1)else aH w s
def ED (s:Nat) (a:List Int):Nat->List Bool
 |0=>[]
 |k+1=>ED s a k++pn s (a.getD k 0).toNat
def KI (s:Nat) (a:List Int):Bool:=a.all λw=>decide (0<=w)&&decide (w<=((2^s-1:Nat):Int))
def okW (s:Nat) (a:List Int):Bool:=a.all λw=>!(w==0)&&!(w==((2^s-1:Nat):Int))
def um (a:List Int) (size:Int):List Bool×Int:=
 if size<2\/12<size then([],3)
 else if KI size.toNat a=false then([],3)
 else if 1048576/size<a.length then([],4)
 else if okW size.toNat a=false then([],22)
 else(ED size.toNat a a.length,0)
section
variable {P : Program}
def aggD (d:TypeDesc):Bool:=match d with|.struct _|.array _ _=>true|_=>false
theorem tU (w:World) (a:TypeId) (d:TypeDesc) (b:P.underlying a=some d) (c:aggD d=true):(isAgg a).run P w= .ok true w:=by
 unfold isAgg;rw[Sem.run_bind,run_underlying b];cases d<;>simp_all[aggD,Result.andThen]
theorem fH (w:World) (b:TypeId) (d:TypeDesc) (a:Addr) (c:List Value) (f:P.underlying b=some d) (g:aggD d=true) (e:(P.info? b).map (·.size)=some c.length)
 (h:∀j v,c[j]?=some v->w.cell? (a.add j)=some v):(loadVar b a).run P w= .ok (.agg c.toArray) w:=by
 have hl:=run_loadCells_list (P:=P) w a c h;cases hq:P.info? b with
 |none=>simp[hq]at e
 |some i=>
  have hs:i.size=c.length:=by simp[hq]at e;exact e
  unfold loadVar;rw[Sem.run_bind,tU w b d f g];simp[Result.andThen,sizeOf,typeInfo,hq,hs,hl]
theorem jD (w:World) (f d:TypeId) (g b:Nat) (c:Array Value) (a:List Value) (hg:w.heap[g]?=some (.cells c f (0,0))) (e:(P.info? d).map (·.size)=some a.length)
 (l:b+a.length<=c.size) (k:∀v∈a,v.oneCell'=true):
 (storeVar d ⟨g,b,none⟩ (.agg a.toArray)).run P w= .ok () (w.setRow g (splice c.toList b a).toArray):=by
 have j:=run_storeCells_at (P:=P) g b f a 0 c w hg (by simpa using l) k;cases hq:P.info? d with
 |none=>simp[hq]at e
 |some i=>
  have hs:i.size=a.length:=by simp[hq]at e;exact e
  unfold splice;simp only[Nat.add_zero,List.append_assoc]at j;simp[storeVar,sizeOf,typeInfo,hq,Value.cells,hs,j]
theorem aK {w:World} {g:Array Oper} {i:List Oper} {b:Oper} {a:Act} {Q:Exit->Act->World->Prop} (s:b.guard=none) (c:TypeId) (p:Operand) (k:b.op= .load c p)
 (d:TypeDesc) (l:P.underlying c=some d) (m:aggD d=true) (f:Addr) (e:List Value) (n:(P.info? c).map (·.size)=some e.length) (o:a.eval p= .pointer (some f))
 (h:∀j v,e[j]?=some v->w.cell? (f.add j)=some v) (q:wpList P g Q i (a.put b.dst (.agg e.toArray)) w):wpList P g Q (b::i) a w:=by
 refine wpList_plain s λK r=>?_;have t:=fH (P:=P) w c d f e l m n h;unfold Oper.wp execOp;simp only[k,o,Instr.loadAt,Instr.sureAddr,Sem.run_bind,Sem.run_pure,Result.andThen_ok,t];exact r _ _ q
theorem bQ {w:World} {j:Array Oper} {k:List Oper} {c:Oper} {a:Act} {Q:Exit->Act->World->Prop} (t:c.guard=none) (e:TypeId) (p x:Operand) (l:c.op= .store e p x)
 (i:TypeId) (g f:Nat) (d:Array Value) (b:List Value) (m:a.eval p= .pointer (some ⟨g,f,none⟩)) (n:a.eval x= .agg b.toArray) (hg:w.heap[g]?=some (.cells d i (0,0))) (o:(P.info? e).map (·.size)=some b.length)
 (u:f+b.length<=d.size) (q:∀v∈b,v.oneCell'=true)
 (r:wpList P j Q k (a.put c.dst undef) (w.setRow g (splice d.toList f b).toArray)):wpList P j Q (c::k) a w:=by
 refine wpList_plain t λK s=>?_;have y:=jD (P:=P) w i e g f d b hg o u q;unfold Oper.wp execOp;simp only[l,m,n,Instr.storeAt,Instr.sureAddr,Sem.run_bind,Sem.run_pure,Result.andThen_ok,y];exact s _ _ r
theorem Az (w:World) (a:TypeId) (d:TypeDesc) (e:Array Value) (b n:Nat) (f:P.underlying a=some d) (g:aggD d=true) (c:(P.info? a).map (·.size)=some n):
 (part a e b).run P w= .ok (.agg (e.extract b (b+n))) w:=by
 cases hq:P.info? a with
 |none=>simp[hq]at c
 |some i=>
  have hs:i.size=n:=by simp[hq]at c;exact c
  unfold part;rw[Sem.run_bind,tU w a d f g];simp[Result.andThen,sizeOf,typeInfo,hq,hs]
theorem dC {w:World} {m:Array Oper} {o:List Oper} {b:Oper} {a:Act} {Q:Exit->Act->World->Prop} (A:b.guard=none) (g:TypeId) (x i:Operand) (p:b.op= .index g x i)
 (len:Nat) (e:TypeId) (r:P.underlying g=some (.array len e)) (d:TypeDesc) (B:P.underlying e=some d) (s:aggD d=true) (n:Nat) (c:(P.info? e).map (·.size)=some n)
 (f:Array Value) (k:IntKind) (I:Int) (j:Nat) (t:a.eval x= .agg f) (u:a.eval i= .int k I) (v:I=(j:Int)) (F:j<len) (l:Array Value) (C:f.extract (j* n) (j* n+n)=l)
 (y:wpList P m Q o (a.put b.dst (.agg l)) w):wpList P m Q (b::o) a w:=by
 refine wpList_plain A λK z=>?_;subst v C;have E:=Az (P:=P) w e d f (j* n) n B s c;have D:(sizeOf e).run P w= .ok n w:=by
  cases hq:P.info? e with
  |none=>simp[hq]at c
  |some q=>simp[hq]at c;simp[sizeOf,typeInfo,hq,c]
 have hc:(0:Int)<=(j:Int)/\(j:Int)<(len:Int):=oO;unfold Oper.wp execOp;simp only[p,t,u,Instr.index,asIntOf,Sem.run_bind,Sem.run_pure,Result.andThen_ok,run_underlying r,if_pos hc,D,Int.toNat_natCast,E];exact z _ _ y
theorem aU {w:World} {f:Array Oper} {g:List Oper} {c:Oper} {a:Act} {Q:Exit->Act->World->Prop} (m:c.guard=none) (b:TypeId) (j:c.op= .alloc b)
 (d:Array Value) (e:(P.info? b).map (·.zero)=some (some (.agg d)))
 (k:wpList P f Q g (a.put c.dst (.pointer (some ⟨w.heap.size,0,none⟩))) (w.alloc (.cells d b))):wpList P f Q (c::g) a w:=by
 refine wpList_plain m λK l=>?_;cases hq:P.info? b with
 |none=>simp[hq]at e
 |some i=>
  have n:i.zero=some (.agg d):=by simpa[hq]using e
  unfold Oper.wp execOp;simp only[j];have o:(Instr.alloc b true (.tuple #[])).run P w= .ok (.pointer (some ⟨w.heap.size,0,none⟩)) (w.alloc (.cells d b)):=by
   simp[Instr.alloc,zeroValue,typeInfo,hq,n,newVar,newRow,Value.cells]
  simp only[Sem.run_bind,Sem.run_pure,Result.andThen_ok,o];exact l _ _ k
theorem gD {w:World} {l:Array Oper} {m:List Oper} {b:Oper} {a:Act} {Q:Exit->Act->World->Prop} (z:b.guard=none) (g:TypeId) (x i:Operand) (n:b.op= .index g x i)
 (len:Nat) (e:TypeId) (o:P.underlying g=some (.array len e)) (d:TypeDesc) (A:P.underlying e=some d) (E:aggD d=false) (c:(P.info? e).map (·.size)=some 1)
 (f:Array Value) (k:IntKind) (I:Int) (j:Nat) (p:a.eval x= .agg f) (r:a.eval i= .int k I) (s:I=(j:Int)) (F:j<len) (v:Value) (t:f[j]?=some v)
 (u:wpList P l Q m (a.put b.dst v) w):wpList P l Q (b::m) a w:=by
 refine wpList_plain z λK y=>?_;subst s;have B:(isAgg e).run P w= .ok false w:=by
  unfold isAgg;rw[Sem.run_bind,run_underlying A];cases d<;>simp_all[aggD,Result.andThen]
 have C:(sizeOf e).run P w= .ok 1 w:=by
  cases hq:P.info? e with
  |none=>simp[hq]at c
  |some q=>simp[hq]at c;simp[sizeOf,typeInfo,hq,c]
 have D:(part e f (j* 1)).run P w= .ok v w:=by
  unfold part;rw[Sem.run_bind,B];simp[Result.andThen,t]
 have hc:(0:Int)<=(j:Int)/\(j:Int)<(len:Int):=oO;unfold Oper.wp execOp;simp only[n,p,r,Instr.index,asIntOf,Sem.run_bind,Sem.run_pure,Result.andThen_ok,run_underlying o,if_pos hc,C,Int.toNat_natCast,D];exact y _ _ u
end
def aa (w:World) (g:Nat) (b:Array Value) (a:TypeId):Prop:=w.heap[g]?=some (.cells b a (0,0))
theorem aa.below {W b:World} {g:Nat} {c:Array Value} {a:TypeId} (h:aa W g c a) (hb:Below W.heap.size W b):aa b g c a:=(hb.block _ (aw h)).trans h
theorem aa.cell {w:World} {g:Nat} {a:Array Value} {b:TypeId} (h:aa w g a b) (j:Nat) (v:Value) (c:a[j]?=some v):w.cell? ⟨g,j,none⟩=some v:=by
 rw[cell_of_row _ _ j a b (0,0) h];exact c
theorem aa.set {w:World} {g:Nat} {b:Array Value} {a:TypeId} (h:aa w g b a) (c':Array Value):aa (w.setRow g c') g c' a:=setRow_heap w g b c' a (0,0) h
theorem aa.other {w:World} {g a:Nat} {c:Array Value} {b:TypeId} (h:aa w g c b) (c':Array Value) (d:g≠a):aa (w.setRow a c') g c b:=(setRow_other w a g c' d).trans h
theorem pq {α:Type} {f:α->Value} (a:World) (xs:List α) (e:TypeId) (n:Nat) (hn:n=xs.length) (b:n<=maxLen):(a.alloc (.cells (xs.map f).toArray e)).ownsRow a.heap.size e 1 (.slice (some ⟨a.heap.size,0,none⟩) n n) n (xs.map f):=by
 refine⟨by simp[hn],.inr ⟨a.heap.size,n,(xs.map f).toArray,rfl,Nat.le_refl _,heap_alloc_new a _,Nat.le_refl _,b,by simp[hn],by show List.take (n* 1) (xs.map f)=_;exact List.take_of_length_le (by simp[hn])⟩⟩
theorem lN (s:ByteArray) (w:World) (hs:s.size<=1000) (a:s.data.toList.all (λb=>decide (b.toNat<128))=true):
 Calls Tryz.prog 178 #[.string s,.string ByteArray.empty] w λe w'=>∃A c,e= .returned (.slice A s.size c)/\SR Value.string ByteArray.empty w' A s.size c (Lib.charsB s)/\Below w.heap.size w w':=by
 have hl:s.size=(Lib.charsB s).length:=(Lib.charsUpTo_length s s.size).symm;refine(Tryz.strings_Split_chars s ByteArray.empty w rfl oO (λj b hb=>?_)).mono ?_
 ·rw[List.all_eq_true]at a;exact of_decide_eq_true (a b (List.mem_of_getElem? hb))
 ·rintro e w' ⟨rfl,rfl⟩;exact⟨_,_,rfl,SR.lit (w.iter s s.size) (Lib.charsB s) 9 _ _ rfl hl oM,(ar w _).trans ((ar _ _).mono (by show _<=(w.heap.push _).size;simp))⟩
abbrev Cd:ByteArray:=⟨#[65,66,67,68,69,70,71,72,73,74,75,76,77,78,79,80,81,82,83,84,85,86,87,88,89,90]⟩
abbrev Ce:ByteArray:=⟨#[97,98,99,100,101,102,103,104,105,106,107,108,109,110,111,112,113,114,115,116,117,118,119,120,121,122]⟩
abbrev Cl:ByteArray:=⟨#[1,2,3,4,5,6,7,8,9,10,11,12,13,27,28,29,30,31,64,92,94,95,96,124,126,127]⟩
abbrev CW:ByteArray:=⟨#[33,34,35,36,37,38,39,40,41,42,43,44,45,46,47,58,59,60,61,62,63,91,93,123,125]⟩
abbrev Av:ByteArray:=⟨#[48,49,50,51,52,53,54,55,56,57,44,46]⟩
abbrev l7:ByteArray:=⟨#[32]⟩
abbrev I8:List ByteArray:=[⟨#[13]⟩,⟨#[13,10]⟩,⟨#[46,32]⟩,⟨#[44,32]⟩,⟨#[58,32]⟩]
def texts:Nat->List ByteArray
 |0=>[l7]++Lib.charsB Cd
 |1=>[l7]++Lib.charsB Ce
 |2=>[l7]++Lib.charsB Cl
 |3=>I8++Lib.charsB CW
 |_=>[l7]++Lib.charsB Av
abbrev mc (kind a:Int) (text:ByteArray):List Value:=[.int .i64 kind,.int .i64 a,.string text]
def cE:Array Value:=(List.replicate 160 (mc 0 0 ByteArray.empty)).flatten.toArray
theorem At:(Tryz.prog.info? 170).map (·.zero)=some (some (.agg cE)):=oK
def fN (a:Array Value) (i:Nat) (c:List Value):Array Value:=(splice a.toList (3* i) c).toArray
theorem EF (a:Array Value) (i:Nat) (c:List Value) (h:3* i+c.length<=a.size):(fN a i c).size=a.size:=by
 unfold fN;rw[List.size_toArray,length_splice _ _ _ (by simpa using h)];simp
def sV (a:Array Value) (l:List ByteArray) (base:Nat):Nat->Array Value
 |0=>a
 |j+1=>fN (sV a l base j) (base+j+1) (mc 1 0 (l.getD j ByteArray.empty))
def pX:Nat->Array Value
 |0=>cE
 |k+1=>sV (pX k) (texts k) (32* k) (texts k).length
theorem nE:cE.size=480:=oK
theorem E0:∀k,(texts k).length<=31
 |0=>by decide
 |1=>by decide
 |2=>by decide
 |3=>by decide
 |_+4=>by show([l7]++Lib.charsB Av).length<=31;decide
theorem AI (w:World) (g:Nat) (c:Array Value) (a:Addr) (h:a.block≠g):(w.setRow g c).cell? a=w.cell? a:=by
 unfold World.cell?;rw[setRow_other w g a.block c h]
theorem ft (k m:Int) (b:ByteArray):∀v∈mc k m b,v.oneCell'=true:=by
 intro v a;simp only[List.mem_cons,List.not_mem_nil,or_false]at a;rcases a with rfl|rfl|rfl<;>rfl
theorem DN {α:Type} (l:List α) (i:Nat) (c:List α) (v:α) (h:v∈splice l i c):v∈l\/v∈c:=by
 unfold splice at h;simp only[List.mem_append]at h;rcases h with h|h|h
 ·exact .inl (List.mem_of_mem_take h)
 ·exact .inr h
 ·exact .inl (List.mem_of_mem_drop h)
structure TS (w wr:World) (cs a:Array Value):Prop where
 B:Below w.heap.size w wr
 R0:aa wr w.heap.size cE 170
 R1:aa wr (w.heap.size+1) a 170
 X:∀k,k<5->∃A n c,cs[k]?=some (.slice A n c)/\SR Value.string ByteArray.empty wr A n c (texts k)/\∀b,A=some b->w.heap.size+2<=b.block
 Z:a.size=480
 O:∀v∈a.toList,v.oneCell'=true
theorem TS.fit {w wr:World} {b a:Array Value} (h:TS w wr b a) {f:Nat} {ce:List Value} (c:ce.length=3) (d:f+3<=480):f+ce.length<=a.size:=by rw[c,h.Z];exact d
theorem TS.put {w wr:World} {d b:Array Value} (h:TS w wr d b) (f i:Nat) (ce:List Value) (p:f=3* i) (x:i<160) (g:ce.length=3) (a:∀v∈ce,v.oneCell'=true):
 TS w (wr.setRow (w.heap.size+1) (splice b.toList f ce).toArray) d (fN b i ce):=by
 subst p;show TS w (wr.setRow (w.heap.size+1) (fN b i ce)) d (fN b i ce);refine⟨below_setRow h.B oO _,h.R0.other _ oO,h.R1.set _,λk q=>?_,?_,λv r=>?_⟩
 ·obtain⟨A,n,c,g,a,m⟩:=h.X k q;refine⟨A,n,c,g,⟨a.hn,a.hc,a.hm,λhn=>?_⟩,m⟩;obtain⟨o,e,s,t⟩:=a.rd hn;have y:=m o e;refine⟨o,e,by rw[size_setRow];exact s,λj u=>?_⟩;rw[AI _ _ _ _ (by rw[aV];omega)];exact t j u
 ·rw[EF _ _ _ (by rw[g,h.Z];omega),h.Z]
 ·rcases DN _ _ _ _ (by simpa[fN]using r)with l|l
  ·exact h.O v l
  ·exact a v l
theorem TS.Lv {w wr:World} {b a:Array Value} (h:TS w wr b a) (f:Nat) (ce:List Value) (e:f%3=0) (g:f<480) (c:ce.length=3) (d:∀v∈ce,v.oneCell'=true):
 TS w (wr.setRow (w.heap.size+1) (splice a.toList f ce).toArray) b (fN a (f/3) ce):=h.put f _ ce oO oO c d
theorem BA:∀v∈cE.toList,v.oneCell'=true:=by
 intro v a;simp only[cE,List.mem_flatten]at a;obtain⟨l,hl,a⟩:=a;rw[List.eq_of_mem_replicate hl]at a;exact ft _ _ _ v a
def shN:Nat->Nat
 |0=>0
 |1=>1
 |2=>2
 |_=>4
theorem FN (k:Nat):shN k<5:=by unfold shN;split<;>omega
def tw:Nat->Array Value
 |0=>pX 5
 |k+1=>fN (tw k) (32* shN k) (mc 3 3 ByteArray.empty)
def rj:Nat->Array Value
 |0=>tw 4
 |k+1=>fN (rj k) (32* k+31) (mc 4 0 ByteArray.empty)
def gh:Array Value:=fN (fN (fN (fN (fN (fN (fN (fN (fN (fN (fN (fN (rj 3) (84/3) (mc 2 1 ByteArray.empty)) (87/3) (mc 2 2 ByteArray.empty)) (90/3) (mc 2 4 ByteArray.empty)) (180/3) (mc 3 0 ByteArray.empty)) (183/3) (mc 2 2 ByteArray.empty)) (186/3) (mc 2 4 ByteArray.empty)) (276/3) (mc 2 1 ByteArray.empty)) (279/3) (mc 2 0 ByteArray.empty)) (282/3) (mc 2 3 ByteArray.empty)) (381/3) (mc 2 0 ByteArray.empty)) (426/3) (mc 2 0 ByteArray.empty)) (429/3) (mc 3 0 ByteArray.empty)
theorem Jd:(Tryz.prog.info? 3).map (·.size)=some 1:=oK
theorem xO:(Tryz.prog.info? 170).map (·.size)=some 480:=oK
theorem Kq:(Tryz.prog.info? 170).map (·.size)=some gh.size:=oK
theorem TS.fin {w wr:World} {b a:Array Value} (h:TS w wr b a):0+a.toList.length<=cE.size:=by rw[nE,Array.length_toList,h.Z];omega
theorem TS.xO {w wr:World} {b a:Array Value} (h:TS w wr b a):(Tryz.prog.info? 170).map (·.size)=some a.toList.length:=by rw[Array.length_toList,h.Z];exact _root_.Go.Proofs.YtmnlkganmgcpbaaGreatDoor.xO
theorem TS.last {w wr:World} {b a:Array Value} (h:TS w wr b a):aa (wr.setRow w.heap.size (splice cE.toList 0 a.toList).toArray) w.heap.size a 170/\Below w.heap.size w (wr.setRow w.heap.size (splice cE.toList 0 a.toList).toArray):=by
 have e:(splice cE.toList 0 a.toList).toArray=a:=by
  unfold splice;rw[List.take_zero,List.nil_append,List.drop_eq_nil_of_le (by simp[h.Z,nE]),List.append_nil]
 rw[e];exact⟨h.R0.set _,below_setRow h.B (Nat.le_refl _) _⟩
theorem dN:(Tryz.prog.info? 168).map (·.size)=some 3:=oK
theorem JN:(Tryz.prog.info? 214).map (·.size)=some 1:=oK
theorem DP {j:Array Oper} {k:List Oper} {b:Oper} {a:Act} {Q:Exit->Act->World->Prop} {w wr:World} {e d:Array Value} (h:TS w wr e d) (s:b.guard=none) (p x:Operand) (l:b.op= .store 168 p x)
 (f:Nat) (ce:List Value) (m:a.eval p= .pointer (some ⟨w.heap.size+1,f,none⟩)) (n:a.eval x= .agg ce.toArray) (c:ce.length=3) (g:∀v∈ce,v.oneCell'=true) (o:f%3=0) (q:f<480)
 (r:∀i,Hid (TS w i e (fN d (f/3) ce))->wpList Tryz.prog j Q k (a.put b.dst undef) i):wpList Tryz.prog j Q (b::k) a wr:=
 bQ s 168 p x l 170 (w.heap.size+1) f d ce m n h.R1 (by rw[c];exact dN) (h.fit c oO) g (r _ (h.Lv f ce o q c g))
theorem zo {d:Array Oper} {e:List Oper} {b:Oper} {a:Act} {Q:Exit->Act->World->Prop} {w wr:World} {f c:Array Value} (h:TS w wr f c) (k:b.guard=none) (p:Operand) (g:b.op= .load 170 p)
 (i:a.eval p= .pointer (some ⟨w.heap.size+1,0,none⟩))
 (j:∀c',Hid (c'=c)->wpList Tryz.prog d Q e (a.put b.dst (.agg c')) wr):wpList Tryz.prog d Q (b::e) a wr:=
 wpList_load_row k 170 p g (w.heap.size+1) i 170 c (0,0) _ h.R1 Tryz.underlying170 rfl (by rw[h.Z];exact xO) (j _ rfl)
theorem xz {d:Array Oper} {f:List Oper} {b:Oper} {a:Act} {Q:Exit->Act->World->Prop} {w wr:World} {g e c':Array Value} (h:TS w wr g e) (hc:c'=e) (m:b.guard=none) (p x:Operand) (i:b.op= .store 170 p x)
 (j:a.eval p= .pointer (some ⟨w.heap.size,0,none⟩)) (k:a.eval x= .agg c')
 (l:∀c,Hid (aa c w.heap.size c' 170/\Below w.heap.size w c)->wpList Tryz.prog d Q f (a.put b.dst undef) c):wpList Tryz.prog d Q (b::f) a wr:=by
 subst hc;exact bQ m 170 p x i 170 w.heap.size 0 cE c'.toList j k h.R0 h.xO h.fin h.O (l _ h.last)
theorem lZ (w:World):
 Calls Tryz.prog 129 #[] w λe w'=>e= .returned (.agg gh)/\Below w.heap.size w w':=by
 obtain⟨V,X,Z,ac,ad⟩:=info_parts Jq;go_enter Tryz.func129,Tryz.ntmps129;go_wp2_with(refine aU rfl 170 rfl cE At ?_)
 have cg:Hid (aa ((w.alloc (.cells cE 170)).alloc (.cells cE 170)) w.heap.size cE 170):=aa.below (W:=w.alloc (.cells cE 170)) (heap_alloc_new _ _) (ar _ _);have ch:Hid (aa ((w.alloc (.cells cE 170)).alloc (.cells cE 170)) (w.heap.size+1) cE 170):=by
  have h:=heap_alloc_new (w.alloc (.cells cE 170)) (.cells cE 170);rw[show(w.alloc (.cells cE 170)).heap.size=w.heap.size+1 from by simp]at h;exact h
 have ci:Hid (Below w.heap.size w ((w.alloc (.cells cE 170)).alloc (.cells cE 170))):=ae (ar _ _) _;have a3:((w.alloc (.cells cE 170)).alloc (.cells cE 170)).heap.size=w.heap.size+1+1:=by simp
 generalize(w.alloc (.cells cE 170)).alloc (.cells cE 170)=o at*;rw[<-a3];have ck:=Lib.hid a3;clear a3;refine(lN Cd _ oD oD).mono ?_;rintro e b4 ⟨d2,c0,rfl,hs,hb⟩;have a6:=Lib.hid hs;have a7:Hid (b4.ownsRow o.heap.size 9 1 (.slice (some ⟨o.heap.size,0,none⟩) 1 1) 1 ([l7].map Value.string)):=ah (pq o [l7] 9 1 rfl oM) hb;have am:Hid (af o b4):=ab (ar _ _) hb;clear hs hb;go_wp2_with(at_builtin;refine aD (f:=Value.string) (d:=ByteArray.empty) zb rfl _ _ _ rfl o.heap.size 9 V _ 16 Tryz.underlying214 X Z ac ad rfl _ 1 [l7] rfl a7.out d2 _ c0 (Lib.charsB Cd) rfl a6.out.hn a6.out.rd (by have:Cd.size=26:=rfl;unfold maxLen;omega) (by have:Cd.size=26:=rfl;omega) am.out.size ?_;intro v0 i g hg;have b:Hid (Below o.heap.size o i):=am.out.grown hg am.out.size (λq hq=>(a7.out.lt q hq).1);obtain⟨F,L,M,rfl,B⟩:=(SG.bU (f:=Value.string) (d:=ByteArray.empty) g).parts;have co:Hid (SR Value.string ByteArray.empty i F L M (texts 0)):=B;have cp:Hid (∀a,F=some a->o.heap.size<=a.block):=(λa e=>(g.lt a.block (by rw[e];rfl)).1);clear B;have a8:Hid (af o i):=b.out;clear b am a7 a6;clear g hg)
 refine(lN Ce _ oD oD).mono ?_;rintro e b5 ⟨d3,c1,rfl,hs,hb⟩;have a9:=Lib.hid hs;have bb:Hid (b5.ownsRow i.heap.size 9 1 (.slice (some ⟨i.heap.size,0,none⟩) 1 1) 1 ([l7].map Value.string)):=ah (pq i [l7] 9 1 rfl oM) hb;have ap:Hid (af i b5):=ab (ar _ _) hb;clear hs hb;go_wp2_with(at_builtin;refine aD (f:=Value.string) (d:=ByteArray.empty) zb rfl _ _ _ rfl i.heap.size 9 V _ 16 Tryz.underlying214 X Z ac ad rfl _ 1 [l7] rfl bb.out d3 _ c1 (Lib.charsB Ce) rfl a9.out.hn a9.out.rd (by have:Ce.size=26:=rfl;unfold maxLen;omega) (by have:Ce.size=26:=rfl;omega) ap.out.size ?_;intro v1 p g hg;have b:Hid (Below i.heap.size i p):=ap.out.grown hg ap.out.size (λq hq=>(bb.out.lt q hq).1);obtain⟨G,n1,N,rfl,B⟩:=(SG.bU (f:=Value.string) (d:=ByteArray.empty) g).parts;have cq:Hid (SR Value.string ByteArray.empty p G n1 N (texts 1)):=B;have cr:Hid (∀a,G=some a->i.heap.size<=a.block):=(λa e=>(g.lt a.block (by rw[e];rfl)).1);clear B;have bd:Hid (af o p):=ab a8.out b.out;have c8:=b;clear b ap bb a9;clear g hg)
 refine(lN Cl _ oD oD).mono ?_;rintro e b6 ⟨d4,d5,rfl,hs,hb⟩;have be:=Lib.hid hs;have bf:Hid (b6.ownsRow p.heap.size 9 1 (.slice (some ⟨p.heap.size,0,none⟩) 1 1) 1 ([l7].map Value.string)):=ah (pq p [l7] 9 1 rfl oM) hb;have av:Hid (af p b6):=ab (ar _ _) hb;clear hs hb;go_wp2_with(at_builtin;refine aD (f:=Value.string) (d:=ByteArray.empty) zb rfl _ _ _ rfl p.heap.size 9 V _ 16 Tryz.underlying214 X Z ac ad rfl _ 1 [l7] rfl bf.out d4 _ d5 (Lib.charsB Cl) rfl be.out.hn be.out.rd (by have:Cl.size=26:=rfl;unfold maxLen;omega) (by have:Cl.size=26:=rfl;omega) av.out.size ?_;intro es r g hg;have b:Hid (Below p.heap.size p r):=av.out.grown hg av.out.size (λq hq=>(bf.out.lt q hq).1);obtain⟨H,n2,O,rfl,B⟩:=(SG.bU (f:=Value.string) (d:=ByteArray.empty) g).parts;have cs:Hid (SR Value.string ByteArray.empty r H n2 O (texts 2)):=B;have cv:Hid (∀a,H=some a->p.heap.size<=a.block):=(λa e=>(g.lt a.block (by rw[e];rfl)).1);clear B;have bi:Hid (af o r):=ab bd.out b.out;have c9:Hid (af i r):=ab c8.out b.out;have dl:=b;clear c8;clear b av bf be;clear g hg)
 refine(lN CW _ oD oD).mono ?_;rintro e b7 ⟨d6,d7,rfl,hs,hb⟩;have bo:=Lib.hid hs;have bq:Hid (b7.ownsRow r.heap.size 9 1 (.slice (some ⟨r.heap.size,0,none⟩) 5 5) 5 (I8.map Value.string)):=ah (pq r I8 9 5 rfl oM) hb;have a0:Hid (af r b7):=ab (ar _ _) hb;clear hs hb;go_wp2_with(at_builtin;refine aD (f:=Value.string) (d:=ByteArray.empty) zb rfl _ _ _ rfl r.heap.size 9 V _ 16 Tryz.underlying214 X Z ac ad rfl _ 5 I8 rfl bq.out d6 _ d7 (Lib.charsB CW) rfl bo.out.hn bo.out.rd (by have:CW.size=25:=rfl;unfold maxLen;omega) (by have:CW.size=25:=rfl;omega) a0.out.size ?_;intro et s g hg;have b:Hid (Below r.heap.size r s):=a0.out.grown hg a0.out.size (λq hq=>(bq.out.lt q hq).1);obtain⟨J,n3,P,rfl,B⟩:=(SG.bU (f:=Value.string) (d:=ByteArray.empty) g).parts;have cx:Hid (SR Value.string ByteArray.empty s J n3 P (texts 3)):=B;have c2:Hid (∀a,J=some a->r.heap.size<=a.block):=(λa e=>(g.lt a.block (by rw[e];rfl)).1);clear B;have bs:Hid (af o s):=ab bi.out b.out;have dm:Hid (af i s):=ab c9.out b.out;have dn:Hid (af p s):=ab dl.out b.out;have ds:=b;clear c9 dl;clear b a0 bq bo;clear g hg)
 refine(lN Av _ oD oD).mono ?_;rintro e b8 ⟨d8,d9,rfl,hs,hb⟩;have bt:=Lib.hid hs;have bv:Hid (b8.ownsRow s.heap.size 9 1 (.slice (some ⟨s.heap.size,0,none⟩) 1 1) 1 ([l7].map Value.string)):=ah (pq s [l7] 9 1 rfl oM) hb;have a1:Hid (af s b8):=ab (ar _ _) hb;clear hs hb;go_wp2_with(at_builtin;refine aD (f:=Value.string) (d:=ByteArray.empty) zb rfl _ _ _ rfl s.heap.size 9 V _ 16 Tryz.underlying214 X Z ac ad rfl _ 1 [l7] rfl bv.out d8 _ d9 (Lib.charsB Av) rfl bt.out.hn bt.out.rd (by have:Av.size=12:=rfl;unfold maxLen;omega) (by have:Av.size=12:=rfl;omega) a1.out.size ?_;intro v4 D g hg;have b:Hid (Below s.heap.size s D):=a1.out.grown hg a1.out.size (λq hq=>(bv.out.lt q hq).1);obtain⟨K,n4,Q,rfl,B⟩:=(SG.bU (f:=Value.string) (d:=ByteArray.empty) g).parts;have c3:Hid (SR Value.string ByteArray.empty D K n4 Q (texts 4)):=B;have c4:Hid (∀a,K=some a->s.heap.size<=a.block):=(λa e=>(g.lt a.block (by rw[e];rfl)).1);clear B;have bx:Hid (af o D):=ab bs.out b.out;have dx:Hid (af i D):=ab dm.out b.out;have dy:Hid (af p D):=ab dn.out b.out;have d0:Hid (af r D):=ab ds.out b.out;have d1:=b;clear dm dn ds;clear b a1 bv bt;clear g hg)
 have c5:Hid (TS w (D.alloc (.cells #[.slice F L M,.slice G n1 N,.slice H n2 O,.slice J n3 P,.slice K n4 Q] 216)) #[.slice F L M,.slice G n1 N,.slice H n2 O,.slice J n3 P,.slice K n4 Q] (pX 0)):=by
  have z:=ck.out;have eu:=a8.out.size;have ex:=bd.out.size;have ey:=bi.out.size;have ez:=bs.out.size;have e0:=bx.out.size;have b0:Below o.heap.size o (D.alloc (.cells #[.slice F L M,.slice G n1 N,.slice H n2 O,.slice J n3 P,.slice K n4 Q] 216)):=ae bx.out _;have ea:Below i.heap.size i D:=dx.out;have ec:Below p.heap.size p D:=dy.out;have ed:Below r.heap.size r D:=d0.out;have ef:Below s.heap.size s D:=d1.out;refine⟨ab ci.out b0,cg.out.below b0,ch.out.below b0,λk a4=>?_,nE,BA⟩;have u:k=0\/k=1\/k=2\/k=3\/k=4:=oO;rcases u with rfl|rfl|rfl|rfl|rfl
  ·exact⟨F,L,M,rfl,co.out.below (ae ea _),λa e=>by have:=cp.out a e;omega⟩
  ·exact⟨G,n1,N,rfl,cq.out.below (ae ec _),λa e=>by have:=cr.out a e;omega⟩
  ·exact⟨H,n2,O,rfl,cs.out.below (ae ed _),λa e=>by have:=cv.out a e;omega⟩
  ·exact⟨J,n3,P,rfl,cx.out.below (ae ef _),λa e=>by have:=c2.out a e;omega⟩
  ·exact⟨K,n4,Q,rfl,c3.out.below (ar _ _),λa e=>by have:=c4.out a e;omega⟩
 clear ck cg ch ci a8 bd bi bs bx dx dy d0 d1 co cq cs cx c3 cp cr cv c2 c4;have fx:(#[Value.slice F L M,.slice G n1 N,.slice H n2 O,.slice J n3 P,.slice K n4 Q]:Array Value).size=5:=rfl;generalize(#[Value.slice F L M,.slice G n1 N,.slice H n2 O,.slice J n3 P,.slice K n4 Q]:Array Value)=C at*;go_loopw [28] (λt wr=>∃k:Nat,k<=5/\t= .int .i64 k/\Hid (TS w wr C (pX k))) (λt _=>5-(intOf t).toNat)
 case atStart=>exact⟨0,by omega,rfl,c5.out⟩
 case round=>
  obtain⟨k,a4,rfl,x⟩:=hrel;by_cases S:k<5
  ·obtain⟨A,n,c,b9,hs,_⟩:=x.out.X k S;have U:=Lib.hid b9;have e9:=Lib.hid hs;clear b9 hs;have fo:=E0 k;go_wp2_with(refine gD rfl 216 _ _ rfl 5 214 Tryz.underlying216 _ Tryz.underlying214 rfl JN C .i64 k k rfl rfl rfl S _ U.out ?_)
   obtain⟨ca,rfl⟩:∃ca:World,ca=wr:=⟨_,rfl⟩;go_loopw [34] (λt wr=>∃j:Nat,j<=n/\t= .int .i64 j/\Hid (TS w wr C (sV (pX k) (texts k) (32* k) j))) (λt _=>n-(intOf t).toNat)
   case atStart=>exact⟨0,by omega,rfl,x.out⟩
   case round=>
    obtain⟨j,fb,rfl,Y⟩:=hrel;obtain⟨A',fd,c',a2,T,_⟩:=Y.out.X k S;rw[U.out]at a2;injection a2 with a2;injection a2 with b1 el em;subst b1 el em;by_cases eq:j<n
    ·obtain⟨a,rfl,f0,c6⟩:=T.rd (by rw[<-T.hn];omega);have b1:=c6 j (by rw[<-T.hn];exact eq);have fr:j<31:=by have:=T.hn;omega
     obtain⟨E,b2⟩:∃E,E=(texts k).getD j ByteArray.empty:=⟨_,rfl⟩;have en:=Lib.hid b2;rw[<-b2]at b1;clear c6 T b2;have eh:Hid (TS w (wr.setRow (w.heap.size+1) (splice (sV (pX k) (texts k) (32* k) j).toList (k* 96+(j+1)* 3) (mc 1 0 E)).toArray) C (fN (sV (pX k) (texts k) (32* k) j) (32* k+j+1) (mc 1 0 E))):=Y.out.put _ _ _ oO oO rfl (ft 1 0 E);have er:Hid (k* 96+(j+1)* 3+(mc 1 0 E).length<=(sV (pX k) (texts k) (32* k) j).size):=Y.out.fit rfl oO;have ej:Hid (∀v∈mc 1 0 E,v.oneCell'=true):=ft 1 0 E;have b3:Hid (mc 1 0 E=[.int .i64 1,.int .i64 0,.string E]):=rfl;generalize mc 1 0 E=ce at*;go_wp2_with(refine bQ rfl 168 _ _ rfl 170 (w.heap.size+1) (k* 96+(j+1)* 3) (sV (pX k) (texts k) (32* k) j) ce rfl (by rw[b3.out];rfl) Y.out.R1 (by rw[b3.out];exact dN) er.out ej.out ?_;generalize World.setRow _ _ _=a5 at*)
     refine⟨⟨j+1,by omega,by go_num,?_⟩,by simp[intOf];omega⟩;have y:=eh.out;rw[b3.out,en.out]at y;exact y
    ·obtain rfl:j=n:=oO;have hq:j=(texts k).length:=T.hn;clear T;have ek:=Lib.hid hq;clear hq;go_wp2;refine⟨⟨k+1,by omega,by go_num,?_⟩,by simp[intOf];omega⟩;have y:=Y.out;rw[ek.out]at y;exact y
  ·have u:k=5:=oO;clear c5;have l:Hid (TS w wr C (tw 0)):=by
    have y:=x.out;rw[u]at y;exact y
   clear u;clear x;go_wp2;go_loopw [49] (λt wr=>∃k:Nat,k<=4/\t= .int .i64 k/\Hid (TS w wr C (tw k))) (λt _=>4-(intOf t).toNat)
   case atStart=>exact⟨0,by omega,rfl,l.out⟩
   case round=>
    clear l;obtain⟨k,a4,rfl,x⟩:=hrel;by_cases S:k<4
    ·have al:Hid (TS w wr C (tw k)):=x;have l:Hid (TS w (wr.setRow (w.heap.size+1) (splice (tw k).toList (shN k* 96) (mc 3 3 ByteArray.empty)).toArray) C (tw (k+1))):=x.out.put _ _ _ oO (by have:=FN k;omega) rfl (ft _ _ _);have U:Hid (#[Value.int .i64 0,.int .i64 1,.int .i64 2,.int .i64 4][k]?=some (.int .i64 (shN k))):=by
      have u:k=0\/k=1\/k=2\/k=3:=oO;rcases u with rfl|rfl|rfl|rfl<;>rfl
     have fv:=FN k;generalize shN k=m at*;go_wp2_with(first|(refine gD rfl 128 _ _ rfl 4 3 Tryz.underlying128 _ Tryz.underlying3 rfl Jd _ .i64 k k rfl rfl rfl S _ U.out ?_)|(refine bQ rfl 168 _ _ rfl 170 (w.heap.size+1) (m* 96) _ (mc 3 3 ByteArray.empty) rfl rfl al.out.R1 dN (al.out.fit rfl oO) (ft 3 3 ByteArray.empty) ?_;generalize World.setRow _ _ _=a5 at*))
     exact⟨⟨k+1,by omega,by go_num,l.out⟩,by simp[intOf];omega⟩
    ·have u:k=4:=oO;have l:Hid (TS w wr C (rj 0)):=by
      have y:=x.out;rw[u]at y;exact y
     clear u;clear x;go_wp2;go_loopw [58] (λt wr=>∃k:Nat,k<=3/\t= .int .i64 k/\Hid (TS w wr C (rj k))) (λt _=>3-(intOf t).toNat)
     case atStart=>exact⟨0,by omega,rfl,l.out⟩
     case round=>
      clear l;obtain⟨k,a4,rfl,x⟩:=hrel;by_cases S:k<3
      ·have al:Hid (TS w wr C (rj k)):=x;have l:Hid (TS w (wr.setRow (w.heap.size+1) (splice (rj k).toList (k* 96+93) (mc 4 0 ByteArray.empty)).toArray) C (rj (k+1))):=x.out.put _ _ _ oO oO rfl (ft _ _ _);have U:Hid (#[Value.int .i64 0,.int .i64 1,.int .i64 2][k]?=some (.int .i64 k)):=by
        have u:k=0\/k=1\/k=2:=oO;rcases u with rfl|rfl|rfl<;>rfl
       go_wp2_with(first|(refine gD rfl 217 _ _ rfl 3 3 Tryz.underlying217 _ Tryz.underlying3 rfl Jd _ .i64 k k rfl rfl rfl S _ U.out ?_)|(refine bQ rfl 168 _ _ rfl 170 (w.heap.size+1) (k* 96+93) _ (mc 4 0 ByteArray.empty) rfl rfl al.out.R1 dN (al.out.fit rfl oO) (ft 4 0 ByteArray.empty) ?_;generalize World.setRow _ _ _=a5 at*))
       exact⟨⟨k+1,by omega,by go_num,l.out⟩,by simp[intOf];omega⟩
      ·have u:k=3:=oO;have l:Hid (TS w wr C (rj 3)):=by
        have y:=x.out;rw[u]at y;exact y
       clear u;clear x;go_wp2_with(first|(refine DP l.out rfl _ _ rfl _ [_,_,_] rfl rfl rfl (ft _ _ _) oD oD ?_;clear l;intro a5 l)|(refine zo l.out rfl _ rfl rfl ?_;intro c7 HC)|(refine xz l.out HC.out rfl _ _ rfl rfl rfl ?_;intro fn cb;have hc:Hid (c7=gh):=HC.out;clear l HC;have HC:=hc;clear hc))
       (try simp only[Exit.inBlock,Exit.then])
       refine bodyPost_ret (results_cell_row rfl _ _ w.heap.size 170 c7 (0,0) _ rfl cb.out.1 Tryz.underlying170 rfl (by rw[HC.out];exact Kq)) rfl ?_;exact⟨by rw[HC.out],cb.out.2⟩
def cf (m n:Nat):Nat:=
 if 1<=n/\n<=(texts m).length then 1 else
 match m,n with
 |0,0=>3|1,0=>3|2,0=>3|4,0=>3|1,28=>3|4,15=>3
 |0,31=>4|1,31=>4|2,31=>4
 |0,28=>2|0,29=>2|0,30=>2|1,29=>2|1,30=>2|2,28=>2|2,29=>2|2,30=>2|3,31=>2|4,14=>2
 |_,_=>0
def modeF (m n:Nat):Nat:=
 match m,n with
 |0,0=>3|1,0=>3|2,0=>3|4,0=>3
 |0,28=>1|0,29=>2|0,30=>4|1,29=>2|1,30=>4|2,28=>1|2,30=>3
 |_,_=>0
def cW (m n:Nat):ByteArray:=if n=0 then ByteArray.empty else(texts m).getD (n-1) ByteArray.empty
abbrev ux (m n:Nat):List Value:=[.int .i64 ((cf m n:Nat):Int),.int .i64 ((modeF m n:Nat):Int),.string (cW m n)]
def nk (m:Nat):List Value:=(List.range 32).flatMap (ux m)
def LB:List Value:=(List.range 5).flatMap nk
theorem Gc:gh.toList=LB:=oK
theorem zw {α:Type} (L:Nat) (f:Nat->List α) (b:∀i,(f i).length=L):∀(k i j:Nat),i<k->j<L->((List.range k).flatMap f)[i* L+j]?=(f i)[j]?:=by
 intro k
 induction k with
 |zero=>intro i j h;omega
 |succ k a=>
  intro i j c d;have hl:((List.range k).flatMap f).length=k* L:=by
   clear a c
   induction k with
   |zero=>simp
   |succ k a=>rw[List.range_succ,List.flatMap_append,List.length_append,a];simp[b,Nat.succ_mul]
  rw[List.range_succ,List.flatMap_append];by_cases h:i<k
  ·rw[List.getElem?_append_left (by rw[hl];calc i* L+j<i* L+L:=oO
    _=(i+1)* L:=by rw[Nat.succ_mul]
    _<=k* L:=Nat.mul_le_mul_right _ oO)]
   exact a i j h d
  ·obtain rfl:i=k:=oO;rw[List.getElem?_append_right (by rw[hl];omega),hl];simp
theorem Ay {α:Type} (L:Nat) (f:Nat->List α) (a:∀i,(f i).length=L) (k:Nat):((List.range k).flatMap f).length=k* L:=by
 induction k with
 |zero=>simp
 |succ k b=>rw[List.range_succ,List.flatMap_append,List.length_append,b];simp[a,Nat.succ_mul]
theorem p8 (m:Nat):(nk m).length=96:=Ay 3 (ux m) (λ_=>rfl) 32
theorem IF (m n j:Nat) (hn:n<32) (a:j<3):(nk m)[n* 3+j]?=(ux m n)[j]?:=zw 3 (ux m) (λ_=>rfl) 32 n j hn a
theorem Di (m k:Nat) (a:m<5) (b:k<96):gh[m* 96+k]?=(nk m)[k]?:=by
 have h:=zw 96 nk p8 5 m k a b;rw[<-h,<-Array.getElem?_toList,Gc];rfl
theorem BJ:gh.size=480:=by
 rw[<-Array.length_toList,Gc];exact Ay 96 nk p8 5
theorem B5 (m n:Nat) (hn:n<32):(nk m).toArray.extract (n* 3) (n* 3+3)=(ux m n).toArray:=by
 apply Array.ext';rw[Array.toList_extract,List.extract_eq_take_drop];apply List.ext_getElem?;intro j;rw[List.getElem?_take];by_cases a:j<3
 ·rw[if_pos oO,List.getElem?_drop];exact IF m n j hn a
 ·rw[if_neg oO,List.getElem?_eq_none (by show 3<=j;omega)]
structure an where
 num:Nat
 sec:Int
 run:Nat
 long:Bool
 size:Nat
 at_:Nat
 mode:Nat
deriving DecidableEq
def an.aC (a:an):List Value:=[.int .i64 (a.num:Int),.int .i64 a.sec,.int .i64 (a.run:Int),.bool a.long,.int .i64 (a.size:Int),.int .i64 (a.at_:Int),.int .i64 (a.mode:Int)]
def an.val (a:an):Value:= .agg a.aC.toArray
def an.aG (C:Nat->Nat->Nat) (a:an):Nat:=a.size+C a.at_ a.mode
structure SW (w:World) (c d cap hb:Nat) (p:ByteArray) (C:Nat->Nat->Nat):Prop where
 lt:c<w.heap.size
 c0:w.cell? ⟨c,0,none⟩=some (.string p)
 ct:∀i v,gh[i]?=some v->w.cell? ⟨c,1+i,none⟩=some v
 cc:w.cell? ⟨c,481,none⟩=some (.slice (some ⟨d,0,none⟩) (p.size+1) cap)
 cm:w.cell? ⟨c,482,none⟩=some (.map (some hb))
 cl:d<w.heap.size
 cz:∀a m,a<=p.size->m<5->w.cell? ⟨d,a* 5+m,none⟩=some (.int .i64 ((C a m:Nat):Int))
 hc:p.size+1<=cap
 hp:p.size<=4096
 b:∀a m,C a m<=1073741824
theorem SW.below {w W:World} {c d cap hb:Nat} {p:ByteArray} {C:Nat->Nat->Nat} (h:SW w c d cap hb p C) (b:Below w.heap.size w W):SW W c d cap hb p C:=
 ⟨Nat.lt_of_lt_of_le h.lt b.size,(b.cell h.lt).trans h.c0,λi v e=>(b.cell h.lt).trans (h.ct i v e),(b.cell h.lt).trans h.cc,(b.cell h.lt).trans h.cm,Nat.lt_of_lt_of_le h.cl b.size,
  λa m f g=>(b.cell h.cl).trans (h.cz a m f g),h.hc,h.hp,h.b⟩
theorem an.cells (W:World) (a:an) (c:TypeId) (b:Nat) (hb:b=W.heap.size):ai (W.alloc (.cells a.aC.toArray c)) b a.aC:=ai.new W a.aC.toArray c b hb
theorem qX {W:World} {b:Nat} {a:an} (h:ai W b a.aC):
 W.cell? ⟨b,0,none⟩=some (.int .i64 (a.num:Int))/\W.cell? ⟨b,1,none⟩=some (.int .i64 a.sec)/\W.cell? ⟨b,2,none⟩=some (.int .i64 (a.run:Int))/\W.cell? ⟨b,3,none⟩=some (.bool a.long)/\
 W.cell? ⟨b,4,none⟩=some (.int .i64 (a.size:Int))/\W.cell? ⟨b,5,none⟩=some (.int .i64 (a.at_:Int))/\W.cell? ⟨b,6,none⟩=some (.int .i64 (a.mode:Int)):=
 ⟨h.2 0 (by simp[an.aC]),h.2 1 (by simp[an.aC]),h.2 2 (by simp[an.aC]),h.2 3 (by simp[an.aC]),h.2 4 (by simp[an.aC]),h.2 5 (by simp[an.aC]),h.2 6 (by simp[an.aC])⟩
theorem kg (b:an) (w:World) (f g cap hb:Nat) (p:ByteArray) (C:Nat->Nat->Nat) (h:SW w f g cap hb p C) (i:b.at_<=p.size) (k:b.mode<5) (hs:b.size<=1073741824):
 Calls Tryz.prog 180 #[.pointer (some ⟨f,0,none⟩),b.val] w λe w'=>e= .returned (.int .i64 ((b.aG C:Nat):Int))/\Below w.heap.size w w':=by
 have r:=h.b b.at_ b.mode;have t:=h.hp;have y:=h.hc;obtain⟨num,d,run,long,size,at_,a⟩:=b;have l:Hid (an.aG C ⟨num,d,run,long,size,at_,a⟩=size+C at_ a):=rfl
 have q:Hid (∀W,af (w.alloc (.cells (an.aC ⟨num,d,run,long,size,at_,a⟩).toArray 181)) W->
  W.cell? ⟨w.heap.size,4,none⟩=some (.int .i64 (size:Int))/\W.cell? ⟨w.heap.size,5,none⟩=some (.int .i64 (at_:Int))/\W.cell? ⟨w.heap.size,6,none⟩=some (.int .i64 (a:Int))/\
  W.cell? ⟨f,481,none⟩=some (.slice (some ⟨g,0,none⟩) (p.size+1) cap)/\W.cell? ⟨g,at_* 5+a,none⟩=some (.int .i64 ((C at_ a:Nat):Int))):=by
  show∀W,_;intro W o;have j:=qX ((ai.new w (an.aC ⟨num,d,run,long,size,at_,a⟩).toArray 181 w.heap.size rfl).below o);have m:=(h.below (ar _ _)).below o;exact⟨j.2.2.2.2.1,j.2.2.2.2.2.1,j.2.2.2.2.2.2,m.cc,m.cz at_ a i k⟩
 have n:Hid (an.val ⟨num,d,run,long,size,at_,a⟩= .agg #[.int .i64 (num:Int),.int .i64 d,.int .i64 (run:Int),.bool long,.int .i64 (size:Int),.int .i64 (at_:Int),.int .i64 (a:Int)]):=rfl;rw[n.out,l.out];clear h l n;generalize C at_ a=c at*;have u:at_<=4096:=by simp only at i;omega
 simp only at k hs i;have v:(at_:Int)<(p.size:Int)+1:=oO;have x:(a:Int)<5:=oO;have s:IntKind.i64.wrap ((size:Int)+(c:Int))=((size+c:Nat):Int):=by rw[aJ _ oO oO];omega
 go_enter Tryz.func180,Tryz.ntmps180;go_wp2;refine yO (af (w.alloc (.cells (an.aC ⟨num,d,run,long,size,at_,a⟩).toArray 181))) [1,2,3,4,5,6,7,8,9,10,11,12,13,14,15,16,17] (ak (Below.refl _ _)) ?_
 repeat refine zO q.out ?_
 refine ag ?_;go_wp2;go_ret;exact⟨rfl,(ar w _).trans ((ak (Below.refl _ _)).mono oS)⟩
def cH (C:Nat->Nat->Nat) (num at_ m:Nat) (best:an) (n sz:Nat) (lg:Bool):an:=
 if best.run=0\/an.aG C ⟨num,-1,n,lg,sz+8* n,at_+n,m⟩<best.aG C then⟨num,-1,n,lg,sz+8* n,at_+n,m⟩else best
theorem lA:(Tryz.prog.info? 181).map (·.zero)=some (some (.agg #[.int .i64 0,.int .i64 0,.int .i64 0,.bool false,.int .i64 0,.int .i64 0,.int .i64 0])):=oK
theorem dK:(Tryz.prog.info? 181).map (·.size)=some 7:=oK
theorem an.one (b:an):∀v∈b.aC,v.oneCell'=true:=by
 intro v a;simp only[an.aC,List.mem_cons,List.not_mem_nil,or_false]at a;rcases a with rfl|rfl|rfl|rfl|rfl|rfl|rfl<;>rfl
theorem bg {P:Program} {w:World} {i:Array Oper} {j:List Oper} {c:Oper} {a:Act} {Q:Exit->Act->World->Prop} (r:c.guard=none) (g:TypeId) (p x:Operand) (k:c.op= .store g p x)
 (f:TypeId) (d:Array Value) (b:List Value) (l:a.eval p= .pointer (some ⟨w.heap.size,0,none⟩)) (m:a.eval x= .agg b.toArray) (n:(P.info? g).map (·.size)=some b.length)
 (s:b.length=d.size) (o:∀v∈b,v.oneCell'=true)
 (q:wpList P i Q j (a.put c.dst undef) (w.alloc (.cells b.toArray f))):wpList P i Q (c::j) a (w.alloc (.cells d f)):=by
 refine bQ r g p x k f w.heap.size 0 d b l m (heap_alloc_new _ _) n oO o ?_;have e:(splice d.toList 0 b).toArray=b.toArray:=by
  unfold splice;rw[List.take_zero,List.nil_append,List.drop_eq_nil_of_le (by simp[s]),List.append_nil]
 rw[e,World.setRow_alloc_new];exact q
theorem aa.cells {w:World} {g:Nat} {l:List Value} {a:TypeId} (h:aa w g l.toArray a):ai w g l:=by
 refine⟨aw h,λi b=>?_⟩;rw[h.cell i (l.getD i undef) (by simp[List.getD,b])]
theorem aa.new (w:World) (c:Array Value) (a:TypeId) (b:Nat) (hb:b=w.heap.size):aa (w.alloc (.cells c a)) b c a:=by subst hb;exact heap_alloc_new _ _
theorem nD {W:World} {b:Nat} {a:an} (h:ai W b a.aC):∀j v,a.aC[j]?=some v->W.cell? ((⟨b,0,none⟩:Addr).add j)=some v:=by
 intro j v c;have hl:j<a.aC.length:=by
  rcases Nat.lt_or_ge j a.aC.length with d|d
  ·exact d
  ·rw[List.getElem?_eq_none d]at c;cases c
 rw[add_plain,Nat.zero_add,h.2 j hl];simp[List.getD,c]
theorem fM (a b:List Value) (h:b.length=a.length):(splice a.toArray.toList 0 b).toArray=b.toArray:=by
 unfold splice;rw[List.take_zero,List.nil_append,List.drop_eq_nil_of_le (by simp[h]),List.append_nil]
theorem ru {a:Act} {c:Oper} {W:World} {b:Nat} {q:Operand} (d:c.op= .load 181 q) (e:a.eval q= .pointer (some ⟨b,0,none⟩)) (x:an) (h:ai W b x.aC):
 (execOp a.eval c).run Tryz.prog W= .ok (.value x.val) W:=by
 have f:=fH (P:=Tryz.prog) W 181 _ ⟨b,0,none⟩ x.aC Tryz.underlying181 rfl dK (nD h);unfold execOp;simp only[d,e,Instr.loadAt,Instr.sureAddr,Sem.run_bind,Sem.run_pure,Result.andThen_ok,f];rfl
theorem Cc (n sz num at_ m:Nat) (lg:Bool) (best:an) (w:World) (d o cap hb A B a xb:Nat) (p:ByteArray) (C:Nat->Nat->Nat) (h:SW w d o cap hb p C)
 (D:ai w A [.int .i64 (num:Int)]) (hF:ai w B [.int .i64 (at_:Int),.int .i64 (m:Int)]) (f:ai w xb [.pointer (some ⟨d,0,none⟩)]) (hB:aa w a best.aC.toArray 181)
 (J:at_+n<=p.size) (K:m<5) (ad:sz<=100) (L:best.at_<=p.size) (M:best.mode<5) (N:best.size<=1073741824) (al:num<32) (am:best.run<=4096):
 Calls Tryz.prog 228 #[.int .i64 (n:Int),.int .i64 (sz:Int),.bool lg,.pointer (some ⟨A,0,none⟩),.pointer (some ⟨B,0,none⟩),.pointer (some ⟨a,0,none⟩),.pointer (some ⟨xb,0,none⟩)] w
  λe w'=>e= .returned (.tuple #[])/\aa w' a (cH C num at_ m best n sz lg).aC.toArray 181/\Below a w w':=by
 have ap:=h.hp;have c1:=D.2 0 oS;have O:=hF.2 0 oS;have P:=hF.2 1 oS;have Q:=f.2 0 oS;simp only[List.getD,List.getElem?_cons_zero,List.getElem?_cons_succ,Option.getD_some]at c1 O P Q;have S:=Lib.hid h;have g:=Lib.hid hB;have av:=Lib.hid f.1;have T:=Lib.hid f;have a1:IntKind.i64.wrap (8* (n:Int))=((8* n:Nat):Int):=by rw[aJ _ oO oO];omega
 have a2:IntKind.i64.wrap ((sz:Int)+((8* n:Nat):Int))=((sz+8* n:Nat):Int):=by rw[aJ _ oO oO];omega
 have a3:IntKind.i64.wrap ((at_:Int)+(n:Int))=((at_+n:Nat):Int):=by rw[aJ _ oO oO];omega
 obtain⟨no,q⟩:∃no:an,no=⟨num,-1,n,lg,sz+8* n,at_+n,m⟩:=⟨_,rfl⟩;have Z:=Lib.hid q;have l:Hid (cH C num at_ m best n sz lg=if best.run=0\/no.aG C<best.aG C then no else best):=by rw[q];rfl
 have v:Hid (no.at_<=p.size/\no.mode<5/\no.size<=1073741824):=by rw[q];exact⟨J,K,by show sz+8* n<=_;omega⟩
 clear h hB D hF f q;go_enter Tryz.func228,Tryz.ntmps228;go_wp2_with(first|(refine aU rfl 181 rfl _ lA ?_)|(refine bg rfl 181 _ _ rfl 181 _ no.aC rfl (by rw[Z.out];rfl) dK rfl no.one ?_))
 have b:Hid (∀W,af (w.alloc (.cells no.aC.toArray 181)) W->W.cell? ⟨a,2,none⟩=some (.int .i64 (best.run:Int))/\W.cell? ⟨xb,0,none⟩=some (.pointer (some ⟨d,0,none⟩))):=by
  show∀W,_;intro W c;have hB:=(g.out.below (ar w (.cells no.aC.toArray 181))).below c;have f:=((T.out.alloc (.cells no.aC.toArray 181)).below c).2 0 oS;exact⟨(qX hB.cells).2.2.1,f⟩
 have r:Hid (∀W,af (w.alloc (.cells no.aC.toArray 181)) W->ai W w.heap.size no.aC):=λW c=>((aa.new w no.aC.toArray 181 _ rfl).cells).below c;have x:Hid (∀W,af (w.alloc (.cells no.aC.toArray 181)) W->ai W a best.aC):=λW c=>((g.out.below (ar w _)).below c).cells;have s:Hid (∀W,af (w.alloc (.cells no.aC.toArray 181)) W->SW W d o cap hb p C):=λW c=>(S.out.below (ar w _)).below c
 (try simp only[yQ,yU,yX,yY])
 by_cases E:best.run=0
 ·have U:((best.run:Int)==0)=true:=by rw[beq_iff_eq];omega
  have j:Hid (cH C num at_ m best n sz lg=no):=by show _=_;rw[l.out,if_pos (.inl E)]
  refine yO (af (w.alloc (.cells no.aC.toArray 181))) [1,2,3,4,5,6,8,9,0,7,10,0,11,12] (ak (Below.refl _ _)) ?_
  repeat refine zO b.out ?_
  repeat(first|refine' tt rfl ?_|refine' qS rfl (ak (Below.refl _ _)) ?_)
  repeat refine zO b.out ?_
  refine ag ?_;have i:Hid (aa (w.alloc (.cells no.aC.toArray 181)).drew a best.aC.toArray 181):=(g.out.below (ar w _)).below (ak (Below.refl _ _));have y:Hid (ai (w.alloc (.cells no.aC.toArray 181)).drew w.heap.size no.aC):=(aa.new w no.aC.toArray 181 _ rfl).cells.below (ak (Below.refl _ _));have t:Hid (Below w.heap.size w (w.alloc (.cells no.aC.toArray 181)).drew):=ak (ar w _);generalize(w.alloc (.cells no.aC.toArray 181)).drew=a0 at*;have ac:a<w.heap.size:=aw g.out;go_wp2_with(first|(refine aK rfl 181 _ rfl _ Tryz.underlying181 rfl ⟨w.heap.size,0,none⟩ no.aC dK rfl (nD y.out) ?_)|(refine bQ rfl 181 _ _ rfl 181 a 0 best.aC.toArray no.aC rfl rfl i.out dK (by show 7<=7;omega) no.one ?_;rw[fM best.aC no.aC (by rfl)]))
  refine bodyPost_end (results_none rfl _ _ _) rfl ?_;rw[j.out];exact⟨rfl,i.out.set _,below_setRow (t.out.mono oO) (Nat.le_refl _) _⟩
 ·have U:((best.run:Int)==0)=false:=by rw[beq_eq_false_iff_ne];omega
  refine yO (af (w.alloc (.cells no.aC.toArray 181))) [1,2,3,4,5,6,8,9,0,7,10,0,11,12] (ak (Below.refl _ _)) ?_
  repeat first|refine zO b.out ?_|refine zX b.out ?_
  refine' zW rfl (λW c=>ru rfl rfl no (r.out W c)) ?_
  repeat first|refine zO b.out ?_|refine zX b.out ?_
  refine' zW rfl (λW c=>ru rfl rfl best (x.out W c)) ?_;refine zZ ?_;refine(kg no _ d o cap hb p C (s.out _ (ak (Below.refl _ _))) v.out.1 v.out.2.1 v.out.2.2).mono ?_;rintro e V ⟨rfl,G⟩;have z:Hid (af (w.alloc (.cells no.aC.toArray 181)) V):=(ak (Below.refl _ _)).trans G;clear G;refine⟨_,rfl,z.out,jO ?_⟩;refine zZ ?_;refine(kg best _ d o cap hb p C (s.out _ z.out) L M N).mono ?_;rintro e k ⟨rfl,H⟩;have u:Hid (af (w.alloc (.cells no.aC.toArray 181)) k):=ab z.out H;clear H;refine⟨_,rfl,u.out,jO ?_⟩;have i:Hid (aa k a best.aC.toArray 181):=(g.out.below (ar w (.cells no.aC.toArray 181))).below u.out;have y:Hid (ai k w.heap.size no.aC):=r.out k u.out;have t:Hid (Below w.heap.size w k):=(ar w _).trans (u.out.mono oS);have ac:a<w.heap.size:=aw g.out;by_cases F:no.aG C<best.aG C
  ·have j:Hid (cH C num at_ m best n sz lg=no):=by show _=_;rw[l.out,if_pos (.inr F)]
   repeat first|refine zO b.out ?_|refine zX b.out ?_
   refine ag ?_;clear b r x s l;generalize no.aG C=X at*;generalize best.aG C=Y at*;go_wp2_with(first|(refine aK rfl 181 _ rfl _ Tryz.underlying181 rfl ⟨w.heap.size,0,none⟩ no.aC dK rfl (nD y.out) ?_)|(refine bQ rfl 181 _ _ rfl 181 a 0 best.aC.toArray no.aC rfl rfl i.out dK (by show 7<=7;omega) no.one ?_;rw[fM best.aC no.aC (by rfl)]))
   refine bodyPost_end (results_none rfl _ _ _) rfl ?_;rw[j.out];exact⟨rfl,i.out.set _,below_setRow (t.out.mono oO) (Nat.le_refl _) _⟩
  ·have j:Hid (cH C num at_ m best n sz lg=best):=by show _=_;rw[l.out,if_neg (λh=>h.elim E F)]
   repeat first|refine zO b.out ?_|refine zX b.out ?_
   refine ag ?_;clear b r x s l;generalize no.aG C=X at*;generalize best.aG C=Y at*;go_wp2;refine bodyPost_end (results_none rfl _ _ _) rfl ?_;rw[j.out];exact⟨rfl,i.out,t.out.mono oO⟩
def cJ (C:Nat->Nat->Nat) (num at_ m:Nat):Nat->an
 |0=>⟨0,0,0,false,1073741824,at_,m⟩
 |k+1=>cH C num at_ m (cJ C num at_ m k) (31+k) (aj m+16) true
def bO (C:Nat->Nat->Nat) (num at_ m K:Nat):Nat->an
 |0=>cJ C num at_ m K
 |k+1=>cH C num at_ m (bO C num at_ m K k) (1+k) (aj m+5) false
def cR (C:Nat->Nat->Nat) (num at_ m left:Nat):an:=bO C num at_ m (min left 2078-30) (min left 31)
def okO (p:ByteArray) (a:an):Prop:=a.at_<=p.size/\a.mode<5/\a.size<=1073741824/\a.run<=4096
theorem fp (m:Nat):aj m<=5:=by unfold aj;split<;>omega
theorem Cr {C:Nat->Nat->Nat} {num at_ m:Nat} {best:an} {n sz:Nat} {lg:Bool} {p:ByteArray} (h:okO p best) (a:at_+n<=p.size) (b:m<5) (c:sz<=100) (d:p.size<=4096):okO p (cH C num at_ m best n sz lg):=by
 unfold cH;split
 ·exact⟨a,b,by show sz+8* n<=_;omega,by show n<=_;omega⟩
 ·exact h
theorem te {C:Nat->Nat->Nat} {num at_ m:Nat} {p:ByteArray} (b:at_<=p.size) (a:m<5) (c:p.size<=4096):∀k,at_+30+k<=p.size\/k=0->okO p (cJ C num at_ m k)
 |0,_=>⟨b,a,Nat.le_refl _,by show 0<=_;omega⟩
 |k+1,h=>Cr (te b a c k oO) oO a (by have:=fp m;omega) c
theorem qV {C:Nat->Nat->Nat} {num at_ m:Nat} {p:ByteArray} (K:Nat) (c:at_<=p.size) (a:m<5) (b:p.size<=4096) (d:at_+30+K<=p.size\/K=0):∀k,at_+k<=p.size->okO p (bO C num at_ m K k)
 |0,_=>te c a b K d
 |k+1,h=>Cr (qV K c a b d k oO) oO a (by have:=fp m;omega) b
structure FS (w wr:World) (a b cap hb:Nat) (p:ByteArray) (C:Nat->Nat->Nat) (num at_ m:Nat):Prop where
 B:Below w.heap.size w wr
 S:SW wr a b cap hb p C
 X:ai wr w.heap.size [.pointer (some ⟨a,0,none⟩)]
 F:ai wr (w.heap.size+1) [.int .i64 (at_:Int),.int .i64 (m:Int)]
 N:ai wr (w.heap.size+2) [.int .i64 (num:Int)]
 Z:aa wr (w.heap.size+3) (an.aC ⟨0,0,0,false,0,0,0⟩).toArray 181
structure BS (w wr:World) (a b cap hb:Nat) (p:ByteArray) (C:Nat->Nat->Nat) (num at_ m:Nat) (best:an):Prop extends FS w wr a b cap hb p C num at_ m where
 O:aa wr (w.heap.size+4) best.aC.toArray 181
theorem FS.below {w wr w1:World} {a b cap hb:Nat} {p:ByteArray} {C:Nat->Nat->Nat} {num at_ m:Nat} (h:FS w wr a b cap hb p C num at_ m) (hB:Below wr.heap.size wr w1):FS w w1 a b cap hb p C num at_ m:=
 ⟨ab h.B hB,h.S.below hB,h.X.below hB,h.F.below hB,h.N.below hB,h.Z.below hB⟩
theorem ng {P:Program} {w:World} {e:Array Oper} {f:List Oper} {b:Oper} {a:Act} {Q:Exit->Act->World->Prop} (l:b.guard=none) (c:TypeId) (i:b.op= .alloc c)
 (d:Array Value) (j:(P.info? c).map (·.zero)=some (some (.agg d))) (g:Nat) (hg:g=w.heap.size)
 (k:wpList P e Q f (a.put b.dst (.pointer (some ⟨g,0,none⟩))) (w.alloc (.cells d c))):wpList P e Q (b::f) a w:=by
 subst hg;exact aU l c i d j k
theorem FS.start (w:World) (a b cap hb:Nat) (p:ByteArray) (C:Nat->Nat->Nat) (num at_ m:Nat) (c d e:TypeId) (h:SW w a b cap hb p C):
 FS w ((((w.alloc (.cells #[.pointer (some ⟨a,0,none⟩)] c)).alloc (.cells #[.int .i64 (at_:Int),.int .i64 (m:Int)] d)).alloc (.cells #[.int .i64 (num:Int)] e)).alloc (.cells (an.aC ⟨0,0,0,false,0,0,0⟩).toArray 181)) a b cap hb p C num at_ m:=by
 refine⟨ae (ae (ae (ar _ _) _) _) _,(((h.below (ar _ _)).below (ar _ _)).below (ar _ _)).below (ar _ _),?_,?_,?_,aa.new _ _ _ _ oS⟩
 ·exact((ai.new w #[.pointer (some ⟨a,0,none⟩)] c _ rfl).alloc _).alloc _|>.alloc _
 ·exact((ai.new (w.alloc _) #[.int .i64 (at_:Int),.int .i64 (m:Int)] d (w.heap.size+1) oS).alloc _).alloc _
 ·exact(ai.new ((w.alloc _).alloc _) #[.int .i64 (num:Int)] e (w.heap.size+2) oS).alloc _
theorem ai.lower {W a:World} {b B:Nat} {c:List Value} (h:ai W b c) (hb:Below B W a) (hl:b<B):ai a b c:=
 ⟨Nat.lt_of_lt_of_le h.1 hb.size,λi d=>(hb.cell hl).trans (h.2 i d)⟩
theorem aa.lower {W b:World} {g B:Nat} {c:Array Value} {a:TypeId} (h:aa W g c a) (hb:Below B W b) (hl:g<B):aa b g c a:=(hb.block _ hl).trans h
theorem SW.lower {w W:World} {c e cap hb B:Nat} {p:ByteArray} {C:Nat->Nat->Nat} (h:SW w c e cap hb p C) (b:Below B w W) (d:c<B) (f:e<B):SW W c e cap hb p C:=
 ⟨Nat.lt_of_lt_of_le h.lt b.size,(b.cell d).trans h.c0,λi v g=>(b.cell (p:=⟨c,1+i,none⟩) d).trans (h.ct i v g),(b.cell d).trans h.cc,(b.cell d).trans h.cm,Nat.lt_of_lt_of_le h.cl b.size,
  λa m j k=>(b.cell f).trans (h.cz a m j k),h.hc,h.hp,h.b⟩
theorem BS.step {w wr w1:World} {a b cap hb:Nat} {p:ByteArray} {C:Nat->Nat->Nat} {num at_ m:Nat} {best c:an} (h:BS w wr a b cap hb p C num at_ m best) (e:a<w.heap.size) (f:b<w.heap.size)
 (d:aa w1 (w.heap.size+4) c.aC.toArray 181) (hB:Below (w.heap.size+4) wr w1):BS w w1 a b cap hb p C num at_ m c:=
 ⟨⟨h.B.trans (hB.mono oO),h.S.lower hB oO oO,h.X.lower hB oO,h.F.lower hB oO,h.N.lower hB oO,h.Z.lower hB oO⟩,d⟩
theorem tF (num at_ m:Nat) (w:World) (a b cap hb:Nat) (p:ByteArray) (C:Nat->Nat->Nat) (h:SW w a b cap hb p C) (a3:at_<p.size) (q:m<5) (hn:num<32):
 Calls Tryz.prog 216 #[.pointer (some ⟨a,0,none⟩),.agg #[.int .i64 (at_:Int),.int .i64 (m:Int)],.int .i64 (num:Int)] w
  λe w'=>e= .returned (cR C num at_ m (p.size-at_)).val/\Below w.heap.size w w':=by
 have y:=h.hp;have z:=Lib.hid h;obtain⟨V,A⟩:w.cell? ⟨a,0,none⟩=some (.string p)/\a<w.heap.size:=⟨h.c0,h.lt⟩;have J:b<w.heap.size:=h.cl;obtain⟨left,hl⟩:∃left,left=p.size-at_:=⟨_,rfl⟩;have a7:IntKind.i64.wrap ((p.size:Int)-(at_:Int))=(left:Int):=by rw[aJ _ oO oO];omega
 have a8:at_+left<=p.size:=oO;have a9:1<=left:=oO;have bb:left<=4096:=oO;rw[<-hl];clear hl h;go_enter Tryz.func216,Tryz.ntmps216;go_wp2_with(refine ng rfl 181 rfl _ lA (w.heap.size+3) oS ?_)
 have t:Hid (FS w _ a b cap hb p C num at_ m):=FS.start w a b cap hb p C num at_ m 110 179 3 z.out;have B:((((w.alloc (.cells #[.pointer (some ⟨a,0,none⟩)] 110)).alloc (.cells #[.int .i64 (at_:Int),.int .i64 (m:Int)] 179)).alloc (.cells #[.int .i64 (num:Int)] 3)).alloc (.cells (an.aC ⟨0,0,0,false,0,0,0⟩).toArray 181)).heap.size=w.heap.size+4:=by simp
 have M:=Lib.hid B;clear B;show Code.wp _ _ _ _ ((((w.alloc (.cells #[.pointer (some ⟨a,0,none⟩)] 110)).alloc (.cells #[.int .i64 (at_:Int),.int .i64 (m:Int)] 179)).alloc (.cells #[.int .i64 (num:Int)] 3)).alloc (.cells (an.aC ⟨0,0,0,false,0,0,0⟩).toArray 181));generalize(((w.alloc (.cells #[.pointer (some ⟨a,0,none⟩)] 110)).alloc (.cells #[.int .i64 (at_:Int),.int .i64 (m:Int)] 179)).alloc (.cells #[.int .i64 (num:Int)] 3)).alloc (.cells (an.aC ⟨0,0,0,false,0,0,0⟩).toArray 181)=w1 at*;have D:Hid (∀W,af w1 W->W.cell? ⟨w.heap.size,0,none⟩=some (.pointer (some ⟨a,0,none⟩))/\W.cell? ⟨a,0,none⟩=some (.string p)/\W.cell? ⟨w.heap.size+1,0,none⟩=some (.int .i64 (at_:Int))):=by
  show∀W,_;intro W X;have g:=t.out.below X;exact⟨g.X.2 0 oS,g.S.c0,g.F.2 0 oS⟩
 (try simp only[yQ,yU,yX,yY])
 clear V z;refine yO (af w1) [1,2,3,4,5,6,7,8,9] (ak (Below.refl _ _)) ?_
 repeat refine zO D.out ?_
 refine ag ?_;clear D;have s:Hid (FS w w1.drew a b cap hb p C num at_ m):=t.out.below (ak (Below.refl _ _));have o:Hid (w1.drew.heap.size=w.heap.size+4):=M.out;clear t M;generalize w1.drew=w2 at*;have E:=s.out.F.2 0 oS;have F:=s.out.F.2 1 oS;simp only[List.getD,List.getElem?_cons_zero,List.getElem?_cons_succ,Option.getD_some]at E F;have bd:=fp m;have N:Hid (∀k,cJ C num at_ m (k+1)=cH C num at_ m (cJ C num at_ m k) (31+k) (aj m+16) true):=λk=>rfl;have ad:Hid (∀K k,bO C num at_ m K (k+1)=cH C num at_ m (bO C num at_ m K k) (1+k) (aj m+5) false):=λK k=>rfl;have al:Hid (cR C num at_ m left=bO C num at_ m (min left 2078-30) (min left 31)):=rfl;have O:Hid (∀k,at_+30+k<=p.size\/k=0->okO p (cJ C num at_ m k)):=te oO q y;have am:Hid (∀K,at_+30+K<=p.size\/K=0->∀k,at_+k<=p.size->okO p (bO C num at_ m K k)):=λK r=>qV K oO q y r;go_wp2_with(first|(go_at_call 132;refine(jn m _).mono ?_;rintro e w' ⟨rfl,P⟩;rw[P];clear P;generalize aj m=G at*)|(refine ng rfl 181 rfl _ lA (w.heap.size+4) o.out.symm ?_)|(rw[<-o.out];refine bg rfl 181 _ _ rfl 181 _ (an.aC ⟨0,0,0,false,1073741824,at_,m⟩) rfl rfl dK rfl (an.one _) ?_))
 rw[o.out];have Q:Hid (BS w (w2.alloc (.cells (an.aC ⟨0,0,0,false,1073741824,at_,m⟩).toArray 181)) a b cap hb p C num at_ m (cJ C num at_ m 0)):=⟨s.out.below (ar _ _),aa.new _ _ _ _ o.out.symm⟩;clear o s E F;generalize w2.alloc (.cells (an.aC ⟨0,0,0,false,1073741824,at_,m⟩).toArray 181)=a4 at*;obtain⟨K,r⟩:∃K,K=min left 2078:=⟨_,rfl⟩;have Y:=Lib.hid r;have be:K<=2078:=oO;have bf:K<=left:=oO;have ap:min (left:Int) 2078=(K:Int):=oO;clear r;go_loopw [11] (λd wr=>∃k:Nat,(31+k<=K+1\/k=0)/\d= .int .i64 ((31+k:Nat):Int)/\Hid (BS w wr a b cap hb p C num at_ m (cJ C num at_ m k))) (λd _=>K+1-(intOf d).toNat)
 case atStart=>exact⟨0,.inr rfl,rfl,Q.out⟩
 case round=>
  clear Q;obtain⟨k,Z,rfl,hB⟩:=hrel;by_cases av:31+k<=K
  ·have c:Hid (okO p (cJ C num at_ m k)):=O.out k oO;have u:=Lib.hid (N.out k);go_wp2_with(go_at_call 228;(refine(Cc (31+k) (G+16) num at_ m true (cJ C num at_ m k) wr a b cap hb _ _ _ _ p C hB.out.S hB.out.N hB.out.F hB.out.X hB.out.O oO q oO c.out.1 c.out.2.1 c.out.2.2.1 hn c.out.2.2.2).mono ?_;rintro e ac ⟨rfl,l,n⟩;have v:=Lib.hid (hB.out.step A J l n);clear l n))
   refine⟨⟨k+1,by omega,by go_num,?_⟩,by simp[intOf];omega⟩;rw[u.out];exact v.out
  ·have S:k=K-30:=oO;have T:Hid (BS w wr a b cap hb p C num at_ m (bO C num at_ m (K-30) 0)):=by
    show BS _ _ _ _ _ _ _ _ _ _ _ (cJ C num at_ m (K-30));rw[<-S];exact hB.out
   clear hB S O N;have bi:(K:Int)<((31+k:Nat):Int):=oO;clear av Z;generalize((31+k:Nat):Int)=a5 at*;obtain⟨L,H⟩:∃L,L=min left 31:=⟨_,rfl⟩;have a0:=Lib.hid H;have bo:L<=31:=oO;have bq:L<=left:=oO;have bs:min (left:Int) 31=(L:Int):=oO;clear H;have a1:Hid (∀j,at_+j<=p.size->okO p (bO C num at_ m (K-30) j)):=am.out (K-30) oO;go_wp2;clear ap;go_loopw [12] (λd wr=>∃j:Nat,j<=L/\d= .int .i64 ((1+j:Nat):Int)/\Hid (BS w wr a b cap hb p C num at_ m (bO C num at_ m (K-30) j))) (λd _=>L+1-(intOf d).toNat)
   case atStart=>exact⟨0,by omega,rfl,T.out⟩
   case round=>
    clear T;obtain⟨j,a6,rfl,hB⟩:=hrel;by_cases bt:1+j<=L
    ·have c:Hid (okO p (bO C num at_ m (K-30) j)):=a1.out j oO;have u:=Lib.hid (ad.out (K-30) j);go_wp2_with(go_at_call 228;(refine(Cc (1+j) (G+5) num at_ m false (bO C num at_ m (K-30) j) wr a b cap hb _ _ _ _ p C hB.out.S hB.out.N hB.out.F hB.out.X hB.out.O oO q oO c.out.1 c.out.2.1 c.out.2.2.1 hn c.out.2.2.2).mono ?_;rintro e ac ⟨rfl,l,n⟩;have v:=Lib.hid (hB.out.step A J l n);clear l n))
     refine⟨⟨j+1,by omega,by go_num,?_⟩,by simp[intOf];omega⟩;rw[u.out];exact v.out
    ·have U:j=L:=oO;have i:Hid (BS w wr a b cap hb p C num at_ m (cR C num at_ m left)):=by
      have g:=hB.out;rw[U,a0.out,Y.out,<-al.out]at g;exact g
     clear hB U;obtain⟨f,x⟩:∃f,f=cR C num at_ m left:=⟨_,rfl⟩;rw[<-x]at i;have a2:=Lib.hid x;clear x;go_wp2_with(first|(refine aK rfl 181 _ rfl _ Tryz.underlying181 rfl ⟨w.heap.size+4,0,none⟩ f.aC dK rfl (nD i.out.O.cells) ?_)|(refine bQ rfl 181 _ _ rfl 181 (w.heap.size+3) 0 _ f.aC rfl rfl i.out.Z dK (by show 7<=7;omega) f.one ?_;rw[fM _ f.aC (by rfl)]))
     (try simp only[Exit.inBlock,Exit.then])
     refine bodyPost_ret (results_cell_row rfl _ _ (w.heap.size+3) 181 f.aC.toArray (0,0) _ rfl (i.out.Z.set _) Tryz.underlying181 rfl dK) rfl ?_;exact⟨by rw[<-a2.out];rfl,below_setRow i.out.B oO _⟩
end
end Go.Proofs.YtmnlkganmgcpbaaGreatDoor
