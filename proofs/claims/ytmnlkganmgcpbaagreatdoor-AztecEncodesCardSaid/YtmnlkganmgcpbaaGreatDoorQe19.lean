import Derived.Test.YtmnlkganmgcpbaaGreatDoorQe18
import Derived.Test.YtmnlkganmgcpbaaGreatDoorQe7
set_option maxRecDepth 100000
set_option maxHeartbeats 4000000
set_option linter.unusedVariables false
set_option linter.unusedSectionVars false
set_option linter.unusedSimpArgs false
namespace Go.Proofs.YtmnlkganmgcpbaaGreatDoor
section
open Go.RowKit
def rk (C:Nat) (p:Pt):Bool:=(jA p.1 C%16==0&&jA p.2 C%2==0)||(jA p.2 C%16==0&&jA p.1 C%2==0)
def jz (C:Nat) (c:Bool) (p:Pt):Bool:=if mo C p<bD c then mo C p%2==0 else !c&&rk C p
def bk (n C:Nat) (c:Bool):List Bool:=(List.range (n* n)).map λi=>jz C c (i%n,i/n)
def fL:List Bool:=[true,true,true,true,true,true]
def o5:List Bool:=[false,false,false,false,false,false]
def fY (n C:Nat) (c:Bool):List Bool:=wrL n (wrL n (bk n C c) (bp C (bD c)) fL) (bP C (bD c)) o5
def IB (L:Nat) (c:Bool) (d content msg:List Bool):List Bool:=
 wrL (ao L c) (wrL (ao L c) d ((bR L c).drop ((bR L c).length-content.length)) content) (dc (aP L c) c) msg
def Aj (L:Nat) (c:Bool) (content msg:List Bool):List Bool:=IB L c (fY (ao L c) (aP L c) c) content msg
theorem fD (n C:Nat) (c:Bool):(bk n C c).length=n* n:=by unfold bk;simp
theorem jM (n C:Nat) (c:Bool):(fY n C c).length=n* n:=by unfold fY;rw[dk,dk,fD]
theorem sO (L:Nat) (c:Bool) (content msg:List Bool):(Aj L c content msg).length=ao L c* ao L c:=by unfold Aj IB;rw[dk,dk,jM]
theorem zE {n C:Nat} {c:Bool} {p:Pt} (h1:p.1<n) (a:p.2<n):(bk n C c).getD (df n p) false=jz C c p:=by
 have b:df n p<n* n:=mA h1 a;have hg:(bk n C c).getD (df n p) false=jz C c (df n p%n,df n p/n):=by
  unfold bk;simp[List.getD,b]
 rw[hg];have e1:df n p%n=p.1:=by unfold df;rw[Nat.add_comm,Nat.add_mul_mod_self_right,Nat.mod_eq_of_lt h1]
 have e2:df n p/n=p.2:=by unfold df;rw[Nat.add_comm,Nat.add_mul_div_right _ _ oO,Nat.div_eq_of_lt h1,Nat.zero_add]
 rw[e1,e2]
theorem pW {C s:Nat} {p:Pt} (hs:5<=s) (b:s<=C) (h:p∈bp C s):mo C p=s/\p.1<2* C+1/\p.2<2* C+1/\∀a:Nat,C-s+2<=a->a+2<=C+s->p≠(a,C-s)/\p≠(C+s,a)/\p≠(a,C+s)/\p≠(C-s,a):=by
 simp only[bp,List.mem_cons,List.not_mem_nil,or_false]at h;unfold mo jA;rcases h with rfl|rfl|rfl|rfl|rfl|rfl
 all_goals simp only[Prod.mk.injEq,ne_eq]
 all_goals refine⟨by omega,by omega,by omega,λa h1 d=>⟨?_,?_,?_,?_⟩⟩<;>omega
theorem lP {C s:Nat} {p:Pt} (hs:5<=s) (b:s<=C) (h:p∈bP C s):mo C p=s/\p.1<2* C+1/\p.2<2* C+1/\∀a:Nat,C-s+2<=a->a+2<=C+s->p≠(a,C-s)/\p≠(C+s,a)/\p≠(a,C+s)/\p≠(C-s,a):=by
 simp only[bP,List.mem_cons,List.not_mem_nil,or_false]at h;unfold mo jA;rcases h with rfl|rfl|rfl|rfl|rfl|rfl
 all_goals simp only[Prod.mk.injEq,ne_eq]
 all_goals refine⟨by omega,by omega,by omega,λa h1 d=>⟨?_,?_,?_,?_⟩⟩<;>omega
theorem DJ {C s:Nat} {p q:Pt} (hs:5<=s) (b:s<=C) (a:p∈bp C s) (hq:q∈bP C s):p≠q:=by
 simp only[bp,List.mem_cons,List.not_mem_nil,or_false]at a;simp only[bP,List.mem_cons,List.not_mem_nil,or_false]at hq;rcases a with rfl|rfl|rfl|rfl|rfl|rfl<;>rcases hq with rfl|rfl|rfl|rfl|rfl|rfl<;>simp only[ne_eq,Prod.mk.injEq]<;>omega
theorem yh (c:Bool):5<=bD c:=by rcases DF c with h|h<;>omega
theorem AX {C:Nat} {c:Bool} (a:bD c<=C) {p:Pt} (h:p∈bP C (bD c)):jz C c p=false:=by
 have h1:=(lP (yh c) a h).1;unfold jz;rw[if_neg oO];cases c with
 |true=>rfl
 |false=>
  simp only[bD,Bool.false_eq_true,if_false]at h a⊢;simp only[bP,List.mem_cons,List.not_mem_nil,or_false]at h;unfold rk jA;rcases h with rfl|rfl|rfl|rfl|rfl|rfl<;>simp only[Bool.not_false,Bool.true_and,Bool.or_eq_false_iff,Bool.and_eq_false_iff,beq_eq_false_iff_ne]<;>omega
theorem Ef {L:Nat} {c:Bool} (hL:L<=32) {p:Pt} (h:p∈bR L c):jz (aP L c) c p=false:=by
 have h1:=AB hL h;unfold jz;rw[if_neg oO];cases c with
 |true=>rfl
 |false=>
  have a:=Ev hL h;unfold rk;simp only[Bool.not_false,Bool.true_and,Bool.or_eq_false_iff,Bool.and_eq_false_iff,beq_eq_false_iff_ne];exact⟨.inl a.1,.inl a.2⟩
theorem Hg {d:List Bool} {i:Nat} {b:Bool} (h:d.getD i false=b) (a:i<d.length):d.set i b=d:=by
 subst h;apply List.ext_getElem oS;intro j h1 f;rw[List.getElem_set];split
 ·rename_i e;subst e;simp[List.getD,a]
 ·rfl
theorem tm (W:Nat):∀(d:List Bool) (ps:List Pt) (a:List Bool),(∀p∈ps,df W p<d.length)->FA W d ps=a->wrL W d ps a=d
 |d,[],a,_,_=>iP _ _ _
 |d,p::ps,[],_,h=>by cases h
 |d,p::ps,b::a,h1,h=>by
  injection h with e f;show wrL W (d.set (df W p) b) ps a=d;rw[Hg e (h1 p (List.mem_cons_self ..))];exact tm W d ps a (λq hq=>h1 q (List.mem_cons_of_mem _ hq)) f
theorem Ja {W:Nat} {d:List Bool} {ps:List Pt} {a:List Bool} (hl:ps.length=a.length) (h:∀i,i<ps.length->d.getD (df W (ps.getD i (0,0))) false=a.getD i false):FA W d ps=a:=by
 unfold FA;apply List.ext_getElem (by simpa using hl);intro i h1 e;have b:i<ps.length:=by simpa using h1
 have:=h i b;simpa[List.getD,b,e]using this
theorem oc {n C:Nat} {c:Bool} (a:bD c<=C) (hn:n=2* C+1):fY n C c=wrL n (bk n C c) (bp C (bD c)) fL:=by
 unfold fY;refine tm _ _ _ _ (λp b=>?_) ?_
 ·have h:=lP (yh c) a b;rw[dk,fD];exact mA oO oO
 ·rw[Br]
  ·refine Ja rfl λi d=>?_;have f:(bP C (bD c)).getD i (0,0)∈bP C (bD c):=by
    simp only[List.getD,List.getElem?_eq_getElem d,Option.getD_some];exact List.getElem_mem d
   have h:=lP (yh c) a f;rw[zE oO oO,AX a f];have j:i<6:=d;obtain rfl|rfl|rfl|rfl|rfl|rfl:i=0\/i=1\/i=2\/i=3\/i=4\/i=5:=oO
   all_goals rfl
  ·intro q hq p b e;have h:=lP (yh c) a hq;have g:=pW (yh c) a b;exact DJ (yh c) a b hq (EL oO oO e)
theorem KP {n C:Nat} {c:Bool} (a:bD c<=C) (hn:n=2* C+1) {p:Pt} (h1:p.1<n) (d:p.2<n) (h:mo C p≠bD c):(fY n C c).getD (df n p) false=jz C c p:=by
 rw[oc a hn,qI,zE h1 d];intro q hq e;have b:=pW (yh c) a hq;have:=EL oO h1 e;rw[this]at b;exact h b.1
section
variable {L : Nat} {c : Bool} (h1 : 1 ≤ L) (hL : L ≤ 32) {content msg : List Bool} (hc : content.length ≤ (bR L c).length)
include h1 hL
theorem Fm (k:Nat) (n:k+content.length=(bR L c).length):wrL (ao L c) (wrL (ao L c) (wrL (ao L c) (bk (ao L c) (aP L c) c) (bp (aP L c) (bD c)) fL) (bR L c) (List.replicate k false++content)) (dc (aP L c) c) msg=Aj L c content msg:=by
 have hs:=lX (c:=c) h1 hL;rw[<-oc oO oO];unfold Aj IB;have e:(bR L c).length-content.length=k:=oO;rw[e];have m:bR L c=(bR L c).take k++(bR L c).drop k:=(List.take_append_drop _ _).symm;have g:((bR L c).take k).length=(List.replicate k false).length:=by simp;omega
 have b:wrL (ao L c) (fY (ao L c) (aP L c) c) ((bR L c).take k++(bR L c).drop k) (List.replicate k false++content)=wrL (ao L c) (fY (ao L c) (aP L c) c) ((bR L c).drop k) content:=by
  rw[pL _ _ _ _ _ _ g];have j:wrL (ao L c) (fY (ao L c) (aP L c) c) ((bR L c).take k) (List.replicate k false)=fY (ao L c) (aP L c) c:=by
   refine tm _ _ _ _ (λp l=>?_) ?_
   ·have:=pe hL (List.mem_of_mem_take l);rw[jM];exact mA this.1 this.2
   ·refine Ja g λi d=>?_;have a:((bR L c).take k).getD i (0,0)∈bR L c:=by
     simp only[List.getD,List.getElem?_eq_getElem d,Option.getD_some];exact List.mem_of_mem_take (List.getElem_mem d)
    have f:=pe hL a;have o:=AB hL a;rw[KP oO oO f.1 f.2 oO,Ef hL a];simp only[List.getD,List.getElem?_replicate];split<;>rfl
  rw[j]
 rw[<-m]at b;rw[b]
end
def Ff (a b:Int):Int:=if b>a then b else a
def En (a b c d:Int):Int:=Ff (Ff (Ff a b) c) d
theorem yJ (f:Array TypeId) (e:TypeId) (a b c d:Int) (w:World):(Builtin.max_ f e #[.int .i64 a,.int .i64 b,.int .i64 c,.int .i64 d]).run Tryz.prog w= .ok (.int .i64 (En a b c d)) w:=by
 simp[Builtin.max_,Builtin.max2,En,Ff]
theorem Ek (x y C:Nat):En ((x:Int)-C) ((C:Int)-x) ((y:Int)-C) ((C:Int)-y)=((mo C (x,y):Nat):Int):=by
 unfold mo jA En Ff;simp only
 (repeat' split)<;>omega
theorem zA (s C m x y:Nat) (c:Bool) (w:World) (d:C<=1000000) (f:x<=1000000) (g:y<=1000000):Calls Tryz.prog 86 #[fi s c C m,.int .i64 x,.int .i64 y] w λe w'=>e= .returned (.int .i64 ((mo C (x,y):Nat):Int))/\Below w.heap.size w w':=by
 have a:=Lib.hid (Ek x y C);have b:Hid (Below w.heap.size w (w.alloc (.cells #[.int .i64 (s:Int),.bool c,.int .i64 (C:Int),.int .i64 (m:Int)] 71))):=ar _ _;have i:=yJ;go_enter Tryz.func86,Tryz.ntmps86;go_wp2;go_ret;exact⟨bK a.out,b.out⟩
theorem AL (d:Nat) (w:World) (b:d<=1000000):Calls Tryz.prog 87 #[.int .i64 d] w λe w'=>e= .returned (.bool (d%2==0))/\w'=w:=by
 have a:Hid (((d:Int)%2==0)=(d%2==0)):=by
  show _=_;rw[Bool.eq_iff_iff];simp;omega
 go_enter Tryz.func87,Tryz.ntmps87;go_wp2;exact bodyPost_ret (v:= .bool ((d:Int)%2==0)) (by simp[results,Tryz.results87,go_sem]) rfl ⟨by rw[a.out],rfl⟩
def AF (a b:Int):Bool:=(a.tmod 16==0&&b.tmod 2==0)||(b.tmod 16==0&&a.tmod 2==0)
theorem tmod_zero (x C:Nat) (k:Nat) (a:k≠0):(((x:Int)-(C:Int)).tmod (k:Int)==0)=(jA x C%k==0):=by
 rw[Bool.eq_iff_iff,beq_iff_eq,beq_iff_eq,<-Int.dvd_iff_tmod_eq_zero];have h:((k:Int)∣((x:Int)-(C:Int)))↔((k:Int)∣((jA x C:Nat):Int)):=by
  unfold jA;rcases Nat.le_total x C with h|h
  ·have e:(((x-C)+(C-x):Nat):Int)=-((x:Int)-(C:Int)):=oO;rw[e,Int.dvd_neg]
  ·have e:(((x-C)+(C-x):Nat):Int)=((x:Int)-(C:Int)):=oO;rw[e]
 rw[h,Int.natCast_dvd_natCast];exact⟨λh=>Nat.mod_eq_zero_of_dvd h,λh=>Nat.dvd_of_mod_eq_zero h⟩
theorem Ca (x y C:Nat):AF ((x:Int)-C) ((y:Int)-C)=rk C (x,y):=by
 unfold AF rk;have a:=tmod_zero x C 16 oO;have b:=tmod_zero y C 2 oO;have c:=tmod_zero y C 16 oO;have d:=tmod_zero x C 2 oO;rw[show((16:Nat):Int)=16 from rfl]at a c;rw[show((2:Nat):Int)=2 from rfl]at b d;rw[a,b,c,d]
theorem r8 (s C m:Nat) (c:Bool) (d f:Int) (w:World):Calls Tryz.prog 133 #[fi s c C m,.int .i64 d,.int .i64 f] w λe w'=>e= .returned (.bool (AF d f))/\Below w.heap.size w w':=by
 have n:Hid (Below w.heap.size w (w.alloc (.cells #[.int .i64 (s:Int),.bool c,.int .i64 (C:Int),.int .i64 (m:Int)] 71))):=ar _ _;have j:Hid (AF d f=((d.tmod 16==0&&f.tmod 2==0)||(f.tmod 16==0&&d.tmod 2==0))):=rfl;have g (a:Int):IntKind.i64.wrap (a.tmod 16)=a.tmod 16:=by
  have k:=Int.tmod_lt_of_pos a (show(0:Int)<16 by omega);have l:-16<a.tmod 16:=by have:=Int.lt_tmod_of_pos a (show(0:Int)<16 by omega);exact this
  exact aJ _ oO oO
 have i (a:Int):IntKind.i64.wrap (a.tmod 2)=a.tmod 2:=by
  have k:=Int.tmod_lt_of_pos a (show(0:Int)<2 by omega);have l:-2<a.tmod 2:=by have:=Int.lt_tmod_of_pos a (show(0:Int)<2 by omega);exact this
  exact aJ _ oO oO
 have k:=g d;have l:=g f;have u:=i d;have v:=i f;clear g i;generalize x:d.tmod 16=a at*;generalize hb:f.tmod 16=b at*;generalize hc:d.tmod 2=p at*;generalize y:f.tmod 2=q at*;cases o:(a==0)<;>cases eb:(b==0)<;>cases r:(p==0)<;>cases t:(q==0)
 all_goals
  rw[o,eb,r,t]at j;go_enter Tryz.func133,Tryz.ntmps133;go_wp2;go_ret;exact⟨aN (by rw[j.out];rfl),n.out⟩
def bc (w:World) (db:Nat) (l:List Bool):Prop:=aa w db (l.map vB).toArray 4
structure au (db:Nat) (w w':World):Prop where
 sz:w.heap.size<=w'.heap.size
 bl:∀k,k<w.heap.size->k≠db->w'.heap[k]?=w.heap[k]?
 os:w'.os=w.os
 tape:w'.tape=w.tape
 output:w'.output=w.output
theorem au.refl (db:Nat) (w:World):au db w w:=⟨Nat.le_refl _,λ_ _ _=>rfl,rfl,rfl,rfl⟩
theorem au.trans {db:Nat} {a b c:World} (h:au db a b) (d:au db b c):au db a c:=⟨Nat.le_trans h.sz d.sz,λk e hn=>(d.bl k (Nat.lt_of_lt_of_le e h.sz) hn).trans (h.bl k e hn),d.os.trans h.os,d.tape.trans h.tape,d.output.trans h.output⟩
theorem au.below {db:Nat} {w W:World} (h:Below w.heap.size w W):au db w W:=⟨h.size,λk a _=>h.block k a,h.os,h.tape,h.output⟩
theorem au.cY {db i:Nat} {w:World} (u:Value):au db w (w.setCell ⟨db,i,none⟩ u):=⟨by simp,λk a hn=>Below.heap_setCell _ _ _ _ hn,rfl,rfl,rfl⟩
theorem au.cell {db:Nat} {w W:World} (h:au db w W) {a:Addr} (b:a.block<w.heap.size) (hn:a.block≠db):W.cell? a=w.cell? a:=by
 have e:W.heap[a.block]?=w.heap[a.block]?:=h.bl _ b hn;exact World.cell?_of_block e
theorem au.row {db g:Nat} {w W:World} {c:Array Value} {a:TypeId} (h:au db w W) (b:aa w g c a) (hn:g≠db):aa W g c a:=(h.bl _ (aw b) hn).trans b
theorem au.to {db B:Nat} {w W:World} (h:au db w W) (hb:B<=db) (a:B<=w.heap.size):Below B w W:=⟨h.os,h.tape,h.output,h.sz,λk b=>h.bl k (Nat.lt_of_lt_of_le b a) oO⟩
theorem bc.cell {w:World} {db:Nat} {l:List Bool} (h:bc w db l) {i:Nat} (a:i<l.length):w.cell? ⟨db,i,none⟩=some (.bool (l.getD i false)):=by
 refine aa.cell h i _ ?_;simp[List.getD,a,vB]
theorem bc.set {w:World} {db:Nat} {l:List Bool} (h:bc w db l) (i:Nat) (b:Bool):bc (w.setCell ⟨db,i,none⟩ (.bool b)) db (l.set i b):=by
 have:=heap_setCell_same w db i _ _ (.bool b) h;unfold bc aa;rw[this];simp[List.map_set,vB]
theorem bc.below {w W:World} {db:Nat} {l:List Bool} (h:bc w db l) (hb:Below w.heap.size w W):bc W db l:=aa.below h hb
theorem oL {a:Act} {b:Oper} {W:World} {x q:Operand} (c:b.op= .store 4 q x) (p:Addr) (v:Bool) (hq:a.eval q= .pointer (some p)) (d:a.eval x= .bool v) {u:Value} (hc:W.cell? p=some u) (e:W.frozen? p=false):
 (execOp a.eval b).run Tryz.prog W= .ok .skip (W.setCell p (.bool v)):=by
 unfold execOp;simp only[c,hq,d,Instr.storeAt,Instr.sureAddr,Sem.run_bind,Sem.run_pure,Result.andThen_ok];go_simp
abbrev C7 (n H db N:Nat):Value:= .agg #[.int .i64 (n:Int),.int .i64 (H:Int),.slice (some ⟨db,0,none⟩) N N]
abbrev Lx (n H db N:Nat):Obj:= .cells #[.int .i64 (n:Int),.int .i64 (H:Int),.slice (some ⟨db,0,none⟩) N N] 28
theorem wT (n H db N m k:Nat) (l:List Bool) (ps:List Pt) (d:List Bool) (v:Value) (B:Option Addr) (w:World) (hn:n<=1000) (cs:H<=1000) (a2:N=l.length) (c3:N<=100000000) (P:bc w db l) (b1:SP w v ps) (a6:∀A m k o,v= .slice A m k->A=some o->o.block≠db)
 (hb:SR vB false w B m k d) (a7:∀o,B=some o->o.block≠db) (bt:ps.length=d.length) (a8:∀p∈ps,df n p<l.length):
 Calls Tryz.prog 84 #[C7 n H db N,v,.slice B m k] w λe w'=>e= .returned (.tuple #[])/\bc w' db (wrL n l ps d)/\au db w w':=by
 obtain⟨A,c,rfl,a9,b6,a3⟩:=b1;obtain⟨Q,X⟩:∃Q,Q=ps.length:=⟨_,rfl⟩;rw[<-X]at a9⊢;have b7:=hb.hn;have b8:m=Q:=oO;subst b8;have t:=Lib.hid X;have O:=Lib.hid bt;have b2:=Lib.hid P;have b3:=Lib.hid a3;have b9:=Lib.hid hb.rd;have ca:Hid (∀o,A=some o->o.block≠db):=λo e=>a6 A _ _ o rfl e;have cb:=Lib.hid a7;have ce:=Lib.hid a8;have a4:=Lib.hid a2;have c7:m<=9223372036854775807:=by unfold maxLen at*;omega
 have bb:db<w.heap.size:=aw P;clear P a3 hb a6 a7 a8 bt X b7 a9 b6 a2;obtain⟨i,F⟩:∃i,i=w.alloc (Lx n H db N):=⟨_,rfl⟩;have Y:Hid (Below w.heap.size w i):=by show Below _ _ _;rw[F];exact ar _ _
 have Z:Hid (aa i w.heap.size #[.int .i64 (n:Int),.int .i64 (H:Int),.slice (some ⟨db,0,none⟩) N N] 28):=by show aa _ _ _ _;rw[F];exact aa.new _ _ _ _ oS
 have bd:Hid (bc i db (wrL n l (ps.take 0) (d.take 0))/\au db i i):=by
  show _/\_;rw[List.take_zero,iP];exact⟨b2.out.below Y.out,au.refl _ _⟩
 have cg:=Lib.hid bb;go_enter Tryz.func84,Tryz.ntmps84;go_wp2;rw[<-F];clear F bb;go_loopw [10] (λS wr=>∃j:Nat,j<=m/\S= .int .i64 j/\Hid (bc wr db (wrL n l (ps.take j) (d.take j))/\au db i wr)) (λS _=>m-(intOf S).toNat)
 case atStart=>exact⟨0,Nat.zero_le _,rfl,bd.out⟩
 case round=>
  clear bd;obtain⟨j,cv,rfl,u⟩:=hrel;by_cases z:j<m
  ·obtain⟨g,D,rfl,G,be⟩:=b3.out (by rw[<-t.out];omega);obtain⟨x,rfl,ac,bf⟩:=b9.out (by rw[<-O.out,<-t.out];omega);have T:=be j (by rw[<-t.out];exact z);have a5:=bf j (by rw[<-O.out,<-t.out];exact z);have bi:g≠db:=ca.out _ rfl;have bv:x.block≠db:=cb.out _ rfl;have bo:ps.getD j (0,0)∈ps:=by
    have:j<ps.length:=by rw[<-t.out];exact z
    simp only[List.getD,List.getElem?_eq_getElem this,Option.getD_some];exact List.getElem_mem this
   have av:=ce.out _ bo;have bx:Hid (wrL n l (ps.take (j+1)) (d.take (j+1))=(wrL n l (ps.take j) (d.take j)).set (df n (ps.getD j (0,0))) (d.getD j false)):=mV n l ps d (by rw[<-t.out];exact z) (by rw[<-O.out,<-t.out];exact z);have bq:Hid ((wrL n l (ps.take j) (d.take j)).length=l.length):=dk _ _ _ _;generalize ps.getD j (0,0)=p at*;generalize d.getD j false=b at*;generalize wrL n l (ps.take j) (d.take j)=U at*;have y:au db w wr:=(au.below Y.out).trans u.out.2;have e1:wr.cell? ⟨g,D+j* 2,none⟩=some (.int .i64 (p.1:Int)):=(y.cell (a:=⟨g,D+j* 2,none⟩) G bi).trans T.1;have e2:wr.cell? ⟨g,D+j* 2+1,none⟩=some (.int .i64 (p.2:Int)):=(y.cell (a:=⟨g,D+j* 2+1,none⟩) G bi).trans T.2;have e3:wr.cell? (x.add j)=some (.bool b):=(y.cell (a:=x.add j) (by rw[aV];exact ac) (by rw[aV];exact bv)).trans a5;have ch:g<wr.heap.size:=Nat.lt_of_lt_of_le G y.sz;have ad:x.block<wr.heap.size:=Nat.lt_of_lt_of_le ac y.sz;obtain⟨f,J⟩:∃f,f=wr.alloc (.cells #[.int .i64 (p.1:Int),.int .i64 (p.2:Int)] 47):=⟨_,rfl⟩;obtain⟨s,K⟩:∃s,s=wr.heap.size:=⟨_,rfl⟩;have C:Hid (Below wr.heap.size wr f):=by show Below _ _ _;rw[J];exact ar _ _
   have L:Hid (aa f s #[.int .i64 (p.1:Int),.int .i64 (p.2:Int)] 47):=by show aa _ _ _ _;rw[J,K];exact aa.new _ _ _ _ oS
   have ci:Hid (bc f db U):=u.out.1.below C.out;have M:w.heap.size<i.heap.size:=aw Z.out;have bs:w.heap.size≠db:=by have:=cg.out;omega
   have ck:w.heap.size<f.heap.size:=Nat.lt_of_lt_of_le (Nat.lt_of_lt_of_le M u.out.2.sz) C.out.size;have al:au db i f:=u.out.2.trans (au.below C.out);have a0:s≠db:=by rw[K];have V:=aw u.out.1;omega
   have b4:Hid (∀W,au db f W->(W.cell? ⟨w.heap.size,0,none⟩=some (.int .i64 (n:Int))/\W.cell? ⟨w.heap.size,2,none⟩=some (.slice (some ⟨db,0,none⟩) N N))/\(W.cell? ⟨s,0,none⟩=some (.int .i64 (p.1:Int))/\W.cell? ⟨s,1,none⟩=some (.int .i64 (p.2:Int)))/\W.cell? (x.add j)=some (.bool b)):=by
    show∀W,_;intro W E;have V:=al.trans E;refine⟨⟨(V.cell (a:=⟨w.heap.size,0,none⟩) M bs).trans (Z.out.cell 0 _ rfl),(V.cell (a:=⟨w.heap.size,2,none⟩) M bs).trans (Z.out.cell 2 _ rfl)⟩,⟨(E.cell (a:=⟨s,0,none⟩) (aw L.out) a0).trans (L.out.cell 0 _ rfl),(E.cell (a:=⟨s,1,none⟩) (aw L.out) a0).trans (L.out.cell 1 _ rfl)⟩,?_⟩;exact(E.cell (a:=x.add j) (by rw[aV];exact Nat.lt_of_lt_of_le ad C.out.size) (by rw[aV];exact bv)).trans ((C.out.cell (by rw[aV];exact ad)).trans e3)
   obtain⟨q,hq⟩:∃q,q=p.2* n:=⟨_,rfl⟩;obtain⟨r,a1⟩:∃r,r=df n p:=⟨_,rfl⟩;have co:r=q+p.1:=by rw[a1,hq];rfl
   rw[<-a1]at av bx;rw[<-a4.out]at av;have c4:q<=100000000:=oO;have c5:(p.2:Int)* (n:Int)=(q:Int):=by rw[hq];simp
   have cx:IntKind.i64.wrap (q:Int)=(q:Int):=aJ _ oO oO;have c2:IntKind.i64.wrap ((q:Int)+(p.1:Int))=(r:Int):=by rw[aJ _ oO oO];omega
   have c8:(r:Int)<(N:Int):=oO;have cq:Hid (r<U.length):=by show _<_;rw[bq.out,<-a4.out];exact av
   have c6:(j:Int)<(m:Int):=oO;clear hq a1 co be bf T a5 bo bq;have cp:=Lib.hid al;clear al y ck a0;go_wp2;rw[<-J,<-K];clear J K e1 e2 e3 M ch ad G ac;have am:Hid (au db f f.drew):=au.below (ak (Below.refl _ _));refine yO (λW=>au db f W) [1,2,3,4,5,6,7,8,9,10,11,12,13,14,15,0,16] am.out ?_
   repeat refine zO b4.out ?_
   have ap:Hid (bc f.drew db U):=ci.out.below (ak (Below.refl _ _));refine' bj (w':=f.drew.setCell ⟨db,r,none⟩ (.bool b)) rfl (oL rfl ⟨db,r,none⟩ b rfl rfl (ap.out.cell cq.out) (frozen_of_row _ _ _ _ _ ap.out)) (am.out.trans (au.cY _)) ?_;simp only[yQ,yU,yX,yY];refine ag ?_;have cr:Hid (bc (f.drew.setCell ⟨db,r,none⟩ (.bool b)) db (wrL n l (ps.take (j+1)) (d.take (j+1)))/\au db i (f.drew.setCell ⟨db,r,none⟩ (.bool b))):=by
    show _/\_;rw[bx.out];exact⟨ap.out.set _ _,(cp.out.trans am.out).trans (au.cY _)⟩
   go_wp2;exact⟨⟨j+1,by omega,by go_num,cr.out⟩,by simp[intOf];omega⟩
  ·obtain rfl:j=m:=oO;have b5:Hid (wrL n l (ps.take j) (d.take j)=wrL n l ps d):=by show _=_;rw[t.out,List.take_length,O.out,List.take_length]
   go_wp2;refine bodyPost_end (results_none rfl _ _ _) rfl ?_;exact⟨rfl,by rw[<-b5.out];exact u.out.1,(au.below Y.out).trans u.out.2⟩
noncomputable def bz (l:List UInt8):List Bool:=@dite _ (∃C,cj (bA l) C) (Classical.propDecidable _) (λh=>pC (bA l) (Classical.choose h)) (λ_=>[])
theorem lh {l:List UInt8} {C:Nat->Nat->Nat} (hl:l.length<=4096) (h:cj (bA l) C):bz l=pC (bA l) C:=by
 unfold bz;rw[dif_pos ⟨C,h⟩];exact(uE (by rw[iS];exact hl) (Classical.choose_spec (⟨C,h⟩:∃C,cj (bA l) C)) h).1
theorem mZ {l:List UInt8} {C:Nat->Nat->Nat} (hl:l.length<=2078) (h:cj (bA l) C):(bz l).length<=8* l.length+21:=by
 have hs:(bA l).size<=4096:=by rw[iS];omega
 rw[lh oO h,qj hs h];exact ui hl (h.ac hs)
def nG (L:Nat) (c:Bool) (k size a:Nat):Bool:=decide (k<=eM c)&&decide (aq L* k+size* a/100+11<=aq L* aQ L c)
def qm (c:Bool):List (Nat×Bool):=(List.range 4).map (λi=>(i+1,true))++(if c=true then[]else(List.range 29).map λi=>(i+4,false))
def om (a:Nat) (b:Bool):List (Nat×Bool):=if a=0 then qm b else[(a,b)]
def dE (a:List Bool) (b:Nat) (p:Nat×Bool):Bool:=nG p.1 p.2 (az a (aq p.1)).length a.length b
def cA (a:List Bool) (d b:Nat) (c:Bool):Option (Nat×Bool):=(om b c).find? (dE a d)
noncomputable def gK (L:Nat) (c:Bool) (k:Nat):List Bool:=cT (eF 16 19 (fF c) 1 (bN (aH (L-1) (iE c)++aH (k-1) (iY c)) 4 (if c=true then 2 else 4))) 4
noncomputable def ql (L:Nat) (c:Bool) (a:List Nat):List Nat:=eF (2^aq L) (kt (aq L)) (aQ L c-a.length) 1 a
noncomputable def ja (L:Nat) (c:Bool) (a:List Nat):List Bool:=cT (ql L c a) (aq L)
noncomputable def fw (L:Nat) (c:Bool) (a:List Nat):List Bool:=Aj L c (ja L c a) (gK L c a.length)
def iG (n:Nat) (a:Int) (c:Bool) (b:Int):Int:=if 4096<n then 4 else if n=0 then 5 else if a≠0/\eB a c=false then 14 else if b<5\/90<b then 3 else 0
noncomputable def gF (l:List UInt8) (a:Int) (b:Bool) (c:Int):Option (Nat×Bool)×Int:=
 if iG l.length a b c≠0 then(none,iG l.length a b c)else match cA (bz l) c.toNat a.toNat b with
  |some p=>(some p,0)
  |none=>(none,16)
theorem IN:kW 4:= .inl rfl
theorem I7 (c:Bool):eo 2 16 19 (fF c) 1:=D9 (w:=4) IN (by cases c<;>decide) (by cases c<;>decide)
def fV (c:Bool):Nat:=if c=true then 2 else 4
theorem z8 (L:Nat) (c:Bool) (k:Nat):gK L c k=cT (eF 16 19 (fF c) 1 (bN (aH (L-1) (iE c)++aH (k-1) (iY c)) 4 (fV c))) 4:=rfl
theorem nz (L:Nat) (c:Bool) (b:1<=L) (a:L<=32):15<=ao L c/\ao L c<=161:=by
 have h:=dF (c:=c) a;have d:=lX (c:=c) b a;have e:=DF c;omega
theorem bc.sr {w:World} {db:Nat} {l:List Bool} (h:bc w db l) {n:Nat} (hn:n=l.length) (a:n<=maxLen):SR vB false w (some ⟨db,0,none⟩) n n l:=
 ⟨hn,Nat.le_refl _,a,λ_=>⟨⟨db,0,none⟩,rfl,aw h,λj b=>by rw[add_plain,Nat.zero_add];exact h.cell b⟩⟩
theorem DE (n:Nat):madeCells (Value.bool false).cells n=((List.replicate n false).map vB).toArray:=by
 show madeCells #[Value.bool false] n=_;apply Array.ext';simp only[madeCells,Array.toList_map,vB,List.map_replicate];apply List.ext_getElem oS;intro i a b;simp[Nat.mod_one]
theorem pM (n:Nat) (hn:n<=100000000) (W:World):(Instr.makeSlice 26 (.int .i64 (n:Int)) (.int .i64 (n:Int))).run Tryz.prog W= .ok (.slice (some ⟨W.heap.size,0,none⟩) n n) (W.alloc (.cells ((List.replicate n false).map vB).toArray 4)):=by
 obtain⟨a,b,c,d,e⟩:=info_parts fe;have h:=run_make (P:=Tryz.prog) W 26 4 a (.bool false) Tryz.underlying26 b c .i64 .i64 (n:Int) (n:Int) oO oO (by rw[e];omega) oO;rw[d,Nat.mul_one]at h;simp only[Int.toNat_natCast]at h;rw[DE]at h;exact h
theorem bc.new (W:World) (l:List Bool):bc (W.alloc (.cells (l.map vB).toArray 4)) W.heap.size l:=aa.new _ _ _ _ oS
theorem yC (v n:Nat):∀k,lowF v n k=(List.range k).map λj=>fP v (n-1-j)
 |0=>rfl
 |k+1=>by
  show lowF v n k++[fP v (n-1-k)]=_;rw[yC v n k,List.range_succ,List.map_append];rfl
def mn (v n k:Nat):List Bool:=(List.range n).map λj=>decide (n-k<=j)&&fP v (n-1-j)
theorem Ha (v n:Nat):mn v n 0=List.replicate n false:=by
 unfold mn;apply List.ext_getElem oS;intro i a b;simp at a;simp[show¬n<=i from by omega]
theorem JR (v n:Nat):mn v n n=aH v n:=by
 unfold mn aH;rw[yC];apply List.map_congr_left;intro j _;simp
theorem mF (v n k:Nat):(mn v n k).length=n:=by unfold mn;simp
theorem CU {v n k i:Nat} (h:i<(mn v n k).length):(mn v n k)[i]=(decide (n-k<=i)&&fP v (n-1-i)):=by simp[mn]
theorem GV {v n k:Nat} (c:k<n):(mn v n k).set (n-1-k) (fP v k)=mn v n (k+1):=by
 apply List.ext_getElem (by rw[List.length_set,mF,mF]);intro i d a;have b:=a;rw[mF]at b;rw[List.getElem_set,CU a];by_cases h:n-1-k=i
 ·subst h;rw[if_pos rfl,show n-1-(n-1-k)=k from by omega,decide_eq_true oO,Bool.true_and]
 ·rw[if_neg h,CU];have:decide (n-k<=i)=decide (n-(k+1)<=i):=by rw[decide_eq_decide];omega
  rw[this]
theorem ku (v n:Nat) (w:World) (r:v<=1000000000000) (hn:n<=62):
 Calls Tryz.prog 118 #[.int .i64 v,.int .i64 n] w λe w'=>∃db,e= .returned (.slice (some ⟨db,0,none⟩) n n)/\db=w.heap.size/\bc w' db (aH v n)/\Below w.heap.size w w':=by
 obtain⟨db,b⟩:∃db,db=w.heap.size:=⟨_,rfl⟩;have l:=pM n oO w;rw[<-b]at l;have m:Hid (bc (w.alloc (.cells ((List.replicate n false).map vB).toArray 4)) db (List.replicate n false)):=by show bc _ _ _;rw[b];exact bc.new _ _
 have o:Hid (Below w.heap.size w (w.alloc (.cells ((List.replicate n false).map vB).toArray 4))):=ar _ _;have p:=Lib.hid b;generalize w.alloc (.cells ((List.replicate n false).map vB).toArray 4)=E at*;clear b;go_enter Tryz.func118,Tryz.ntmps118;go_wp2;clear l;go_loopw [0,6] (λs c wr=>∃(k x:Nat) (j:Int),k<=n/\s= .int .i64 x/\c= .int .i64 j/\Hid (j=(n:Int)-1-k)/\x<=1000000000000/\Hid (x=v/2^k)/\Hid (bc wr db (mn v n k))/\Hid (Below w.heap.size w wr)) (λ_ c _=>(intOf c+1).toNat)
 case atStart=>exact⟨0,v,_,Nat.zero_le _,rfl,rfl,by show _=_;omega,r,by show _=_;rw[Nat.pow_zero,Nat.div_one],by show bc _ _ _;rw[Ha];exact m.out,o.out⟩
 case round=>
  clear m o;obtain⟨k,x,j,F,rfl,rfl,d,G,f,a,hB⟩:=hrel;by_cases u:k<n
  ·obtain⟨i,q⟩:∃i,i=n-1-k:=⟨_,rfl⟩;obtain rfl:j=(i:Int):=by have:=d.out;omega
   have g:=Lib.hid q;have z:i<n:=oO;have H:i<=61:=oO;have A:Hid ((mn v n k).set i (fP v k)=mn v n (k+1)):=by show _=_;rw[g.out];exact GV u
   have M:((x:Int)%2==1)=fP v k:=by
    unfold fP;rw[<-f.out,Bool.eq_iff_iff];simp;omega
   have J:wr.cell? ⟨db,i,none⟩=some (.bool ((mn v n k).getD i false)):=a.out.cell (by rw[mF];exact z);have K:wr.frozen? ⟨db,i,none⟩=false:=frozen_of_row _ _ _ _ _ a.out;have B:Hid (x/2=v/2^(k+1)):=by show _=_;rw[f.out,Nat.div_div_eq_div_mul,Nat.pow_succ]
   generalize fP v k=y at*;have D:Hid (bc (wr.setCell ⟨db,i,none⟩ (.bool y)) db (mn v n (k+1))):=by show bc _ _ _;rw[<-A.out];exact a.out.set i y
   have C:Hid (Below w.heap.size w (wr.setCell ⟨db,i,none⟩ (.bool y))):=hB.out.setCell (by rw[p.out];exact Nat.le_refl _) _;clear q;go_wp2;exact⟨⟨k+1,x/2,_,by omega,by go_num,rfl,by have:=g.out;show _=_;omega,by omega,B.out,D.out,C.out⟩,by simp[intOf]⟩
  ·obtain rfl:k=n:=oO;have L:decide ((0:Int)<=j)=false:=by have:=d.out;simp;omega
   have t:Hid (bc wr db (aH v k)):=by show bc _ _ _;rw[<-JR];exact a.out
   go_wp2;go_ret;exact⟨db,rfl,p.out,t.out,hB.out⟩
theorem Bn (A:Option Addr) (n c:Nat) (b:List Bool) (w:World) (hn:n<=40) (hb:SR vB false w A n c b):
 Calls Tryz.prog 72 #[.slice A n c] w λe w'=>e= .returned (.int .i64 ((numF b 0 n:Nat):Int))/\w'=w:=by
 have p:=Lib.hid hb;have i:Hid (n=b.length):=hb.hn;clear hb;go_enter Tryz.func72,Tryz.ntmps72;go_wp2;go_loop [3,4] (λvv f=>∃k x:Nat,k<=n/\f= .int .i64 k/\vv= .int .i64 x/\x<=2199023255552/\Hid (x=numF b 0 k)) (λ_ f=>n-(intOf f).toNat)
 case atStart=>exact⟨0,0,Nat.zero_le _,rfl,rfl,by omega,rfl⟩
 case round=>
  obtain⟨k,x,t,rfl,rfl,u,j⟩:=hrel;by_cases s:k<n
  ·obtain⟨v,rfl,B,o⟩:=p.out.rd (by rw[<-i.out];omega);have z:=o k (by rw[<-i.out];exact s);clear o;have l:Hid (∀y,b.getD k false=y->numF b 0 (k+1)=2* x+(if y then 1 else 0)):=by
    show∀y,_;rintro y rfl;rw[j.out];show 2* _+(if b.getD (0+k) false then 1 else 0)=_;rw[Nat.zero_add]
   generalize b.getD k false=y at*;have q:2^(k+1)<=2^40:=Nat.pow_le_pow_right oO oO;have a:=rM b 0 (k+1);have r:(2:Nat)^40=1099511627776:=by decide
   have m:numF b 0 (k+1)<=1099511627776:=oO;clear a q r;cases y with
   |true=>
    have d:=Lib.hid (l.out true rfl);have g:2* x+1<=2199023255552:=by
     have a:=d.out;simp only[if_true]at a;omega
    clear m;go_wp2;exact⟨⟨k+1,2* x+1,by omega,by go_num,by go_num,g,d.out.symm⟩,by simp[intOf];omega⟩
   |false=>
    have d:=Lib.hid (l.out false rfl);have g:2* x<=2199023255552:=by
     have a:=d.out;simp only[Bool.false_eq_true,if_false]at a;omega
    clear m;go_wp2;exact⟨⟨k+1,2* x,by omega,by go_num,by go_num,g,d.out.symm⟩,by simp[intOf];omega⟩
  ·obtain rfl:k=n:=oO;go_wp2;go_ret;exact⟨by rw[<-j.out];rfl,rfl⟩
theorem AS (A:Option Addr) (n c s m:Nat) (b:List Bool) (w:World) (Y:1<=s) (hs:s<=12) (l:n=m* s) (hn:n<=100000) (hb:SR vB false w A n c b):
 Calls Tryz.prog 70 #[.slice A n c,.int .i64 s] w λe w'=>∃v,e= .returned v/\SG vN 0 w' v (bN b s m)/\Below w.heap.size w w':=by
 obtain⟨y,z,G,H,J⟩:=info_parts dd;have j:=Lib.hid hb;have q:=Lib.hid l;have Z:m<=n:=by rw[l];exact Nat.le_mul_of_pos_right m oO
 clear hb l;go_enter Tryz.func70,Tryz.ntmps70;go_wp2;go_loopw [5,6] (λB o wr=>∃i a:Nat,i<=m/\a<=n/\o= .int .i64 a/\Hid (a=i* s)/\Hid (OG vN 3 w wr B (bN b s i))) (λ_ o _=>n-(intOf o).toNat)
 case atStart=>exact⟨0,0,Nat.zero_le _,Nat.zero_le _,rfl,by show _=_;rw[Nat.zero_mul],OG.start _ _⟩
 case round=>
  obtain⟨i,a,ac,ad,rfl,k,g⟩:=hrel;obtain⟨E,p⟩:∃E,E=a+s:=⟨_,rfl⟩;have al:(a:Int)+(s:Int)=(E:Int):=oO;by_cases am:i<m
  ·have K:E<=n:=by
    have W:=k.out;have X:=q.out;have C:(i+1)* s<=m* s:=Nat.mul_le_mul_right s oO;rw[Nat.add_mul,Nat.one_mul]at C;omega
   have L:=Lib.hid (j.out.below g.out.B);have M:=j.out.hc;obtain⟨D,rfl,-,-⟩:=j.out.rd (by rw[<-j.out.hn];omega);have N:Hid (a<=E):=by show _<=_;omega
   have O:Hid (E<=c):=by show _<=_;omega
   have P:Hid (a<c):=by show _<_;omega
   have Q:Hid (E-a=s):=by show _=_;omega
   have S:Hid (E=(i+1)* s):=by show _=_;rw[p,k.out,Nat.add_mul,Nat.one_mul]
   have T:Hid (Calls Tryz.prog 72 #[.slice (some (D.add a)) s (c-a)] wr λe w'=>e= .returned (.int .i64 ((numF b a s:Nat):Int))/\w'=wr):=by
    show Calls _ _ _ _ _;rw[<-tH];exact Bn _ s _ _ wr oO (L.out.piece a s _ oO oO oO)
   have U:Hid (bN b s (i+1)=bN b s i++[numF b a s]):=by show _=_;rw[su,k.out]
   have r:Hid ((bN b s i).length<=100000):=by show _<=_;rw[gn];omega
   generalize numF b a s=x at*;have av:a<n:=oO;clear M p
   go_wp2_with(first
    |((with_reducible show wpList _ _ _ (⟨_,Op.slice 26 _ _ _ _,_,_,_,_⟩::_) _ _);refine sN rfl (sQ rfl rfl rfl rfl a E rfl rfl N.out O.out P.out) ?_;rw[Q.out])
    |(go_at_call 72;refine T.out.mono ?_;rintro e w' ⟨rfl,t⟩;rw[t];clear t)
    |(at_builtin;refine aD (f:=vN) (d:=0) mY rfl _ _ _ rfl w.heap.size 3 y _ 8 Tryz.underlying64 z G H J rfl _ (bN b s i).length (bN b s i) rfl (ah g.out.O (ar _ _)) (some ⟨wr.heap.size,0,none⟩) 1 1 [x] rfl rfl (RG.one _ _ _ _ rfl) (by have:=r.out;unfold maxLen;omega) (by have:=r.out;omega) (by have:=g.out.B.size;simp;omega) ?_;intro v1 w1 u hg;have F:Hid (OG vN 3 w w1 v1 (bN b s i++[x])):=g.out.grow (ar _ _) u hg;clear u hg))
   exact⟨⟨i+1,E,by omega,K,by go_num,S.out,by show OG _ _ _ _ _ _;rw[U.out];exact F.out⟩,by simp[intOf];omega⟩
  ·obtain rfl:i=m:=oO;have V:a=n:=by rw[k.out,q.out]
   have ap:decide (E<=n)=false:=by simp;omega
   clear p V;go_wp2;go_ret;exact⟨_,rfl,g.out.sg,g.out.B⟩
theorem DL (A:Option Addr) (n c s:Nat) (l:List Nat) (w:World) (U:1<=s) (hs:s<=12) (hn:n<=8000) (hl:aA (2^s) l) (hb:SR vN 0 w A n c l):
 Calls Tryz.prog 71 #[.slice A n c,.int .i64 s] w λe w'=>∃v,e= .returned v/\SG vB false w' v (cT l s)/\Below w.heap.size w w':=by
 obtain⟨u,y,H,J,K⟩:=info_parts fe;have z:=Lib.hid hb;have b:Hid (n=l.length):=hb.hn;have B:=Lib.hid hl;have W:n<=9223372036854775807:=oO;clear hb hl;go_enter Tryz.func71,Tryz.ntmps71;go_wp2;go_loopw [5,6] (λC g wr=>∃i:Nat,i<=n/\g= .int .i64 i/\Hid (OG vB 4 w wr C (cT (l.take i) s))) (λ_ g _=>n-(intOf g).toNat)
 case atStart=>exact⟨0,Nat.zero_le _,rfl,OG.start _ _⟩
 case round=>
  obtain⟨i,V,rfl,a⟩:=hrel;by_cases m:i<n
  ·obtain⟨Q,rfl,P,o⟩:=(z.out.below a.out.B).rd (by rw[<-b.out];omega);have S:=o i (by rw[<-b.out];exact m);have D:Hid (l.getD i 0<2^s):=B.out i;have j:Hid (cT (l.take (i+1)) s=cT (l.take i) s++aH (l.getD i 0) s):=pz l s (by rw[<-b.out];exact m);have p:Hid ((cT (l.take i) s).length<=100000000):=by
    show _<=_;rw[iX,List.length_take];have:min i l.length* s<=8000* 12:=Nat.mul_le_mul oO hs;omega
   generalize l.getD i 0=x at*;have L:x<=1000000000000:=by have E:=D.out;have F:=kZ hs;omega
   have M:=Lib.hid (ku x s wr L oO);clear o P
   go_wp2_with(first
    |(go_at_call 118;refine M.out.mono ?_;rintro e T ⟨db,rfl,N,q,r⟩;have O:=Lib.hid q;have k:=Lib.hid r;clear q r N)
    |(at_builtin;refine aD (f:=vB) (d:=false) jS rfl _ _ _ rfl w.heap.size 4 u _ 1 Tryz.underlying26 y H J K rfl _ (cT (l.take i) s).length (cT (l.take i) s) rfl (ah a.out.O k.out) (some ⟨db,0,none⟩) s s (aH x s) rfl (bm _ _).symm (O.out.sr (bm _ _).symm oM).rd (by have:=p.out;unfold maxLen;omega) (by have:=p.out;omega) (by have E:=a.out.B.size;have F:=k.out.size;omega) ?_;intro v1 w1 t hg;have G:Hid (OG vB 4 w w1 v1 (cT (l.take i) s++aH x s)):=a.out.grow k.out (by rw[bm];exact t) hg;clear t hg))
   exact⟨⟨i+1,by omega,by go_num,by show OG _ _ _ _ _ _;rw[j.out];exact G.out⟩,by simp[intOf];omega⟩
  ·obtain rfl:n=i:=oO;have j:Hid (l.take n=l):=by show _=_;rw[b.out,List.take_length]
   go_wp2;go_ret;exact⟨_,rfl,by have h:=a.out.sg (d:=false);rw[j.out]at h;exact h,a.out.B⟩
theorem SP.lit (W:World) (ys:List Pt) (a:TypeId) (b n:Nat) (hb:b=W.heap.size) (hn:n=ys.length) (e:n<=maxLen):SP (W.alloc (.cells (ys.flatMap eg).toArray a)) (.slice (some ⟨b,0,none⟩) n n) ys:=by
 subst hb hn;refine⟨_,_,rfl,Nat.le_refl _,e,λ_=>⟨_,0,rfl,by simp,λj f=>?_⟩⟩;have h:=yo ys j f;have c:=cn W ys a _ _ h.1;have d:=cn W ys a _ _ h.2;rw[add_plain,Nat.zero_add]at c d;rw[Nat.zero_add,Nat.mul_comm];exact⟨c,d⟩
theorem uP (s C m:Nat) (c:Bool) (w:World) (H:m<=C) (K:C<=1000000) (J:5<=m):Calls Tryz.prog 88 #[fi s c C m] w λe w'=>∃v u,e= .returned (.tuple #[v,u])/\ee w.heap.size w' v (bp C m)/\ee w.heap.size w' u (bP C m)/\Below w.heap.size w w':=by
 obtain⟨a,o⟩:∃a,a=C-m:=⟨_,rfl⟩;obtain⟨f,p⟩:∃f,f=C-m+1:=⟨_,rfl⟩;obtain⟨b,hb⟩:∃b,b=C+m:=⟨_,rfl⟩;obtain⟨i,q⟩:∃i,i=C+m-1:=⟨_,rfl⟩;have e1:(C:Int)-(m:Int)=(a:Int):=oO;have e2:(a:Int)+1=(f:Int):=oO;have e3:(C:Int)+(m:Int)=(b:Int):=oO;have e4:(b:Int)-1=(i:Int):=oO;have y:Hid (bp C m=[(a,a),(f,a),(a,f),(b,a),(b,f),(b,i)]):=by show _=_;rw[o,p,hb,q];rfl
 have z:Hid (bP C m=[(i,a),(b,b),(i,b),(a,b),(f,b),(a,i)]):=by show _=_;rw[o,p,hb,q];rfl
 have L:a<=10000000:=oO;have M:b<=10000000:=oO;have O:f<=10000000:=oO;have P:i<=10000000:=oO;clear o p hb q;obtain⟨g,n⟩:∃g,g=w.alloc (.cells #[.int .i64 (s:Int),.bool c,.int .i64 (C:Int),.int .i64 (m:Int)] 71):=⟨_,rfl⟩;have E:Hid (Below w.heap.size w g):=by show Below _ _ _;rw[n];exact ar _ _
 have t:Hid (aa g w.heap.size #[.int .i64 (s:Int),.bool c,.int .i64 (C:Int),.int .i64 (m:Int)] 71):=by show aa _ _ _ _;rw[n];exact aa.new _ _ _ _ oS
 have B:Hid (∀W,af g W->W.cell? ⟨w.heap.size,2,none⟩=some (.int .i64 (C:Int))/\W.cell? ⟨w.heap.size,3,none⟩=some (.int .i64 (m:Int))):=λW j=>⟨(t.out.below j).cell 2 _ rfl,(t.out.below j).cell 3 _ rfl⟩;have x:Hid (Below w.heap.size w g.drew):=ak E.out;go_enter Tryz.func88,Tryz.ntmps88;go_wp2;rw[<-n];clear n;refine yO (af g) [1,2,3,4,5,6] (ak (Below.refl _ _)) ?_
 repeat refine zO B.out ?_
 refine ag ?_;have N:=Lib.hid x.out.size;have F:Hid (∀W:World,Below w.heap.size w W->Below w.heap.size w (W.alloc (.cells ((bp C m).flatMap eg).toArray 47))/\ee w.heap.size (W.alloc (.cells ((bp C m).flatMap eg).toArray 47)) (.slice (some ⟨W.heap.size,0,none⟩) 6 6) (bp C m)):=by
  show∀W:World,_;intro W j;exact⟨ae j _,SP.lit W _ _ _ 6 rfl rfl oM,λA m k D d l=>by injection d with d _ _;rw[l]at d;injection d with d;rw[<-d];exact j.size⟩
 have G:Hid (∀W:World,Below w.heap.size w W->Below w.heap.size w (W.alloc (.cells ((bP C m).flatMap eg).toArray 47))/\ee w.heap.size (W.alloc (.cells ((bP C m).flatMap eg).toArray 47)) (.slice (some ⟨W.heap.size,0,none⟩) 6 6) (bP C m)):=by
  show∀W:World,_;intro W j;exact⟨ae j _,SP.lit W _ _ _ 6 rfl rfl oM,λA m k D d l=>by injection d with d _ _;rw[l]at d;injection d with d;rw[<-d];exact j.size⟩
 go_wp2;go_ret2
 have d:=F.out g.drew x.out;have l:=G.out _ d.1;rw[y.out]at d l⊢;rw[z.out]at l⊢;have r:=l.2;rw[show(g.drew.alloc (.cells (([(a,a),(f,a),(a,f),(b,a),(b,f),(b,i)]:List Pt).flatMap eg).toArray 47)).heap.size=g.heap.size+1 from by simp]at r;exact⟨_,_,rfl,d.2.below (ar _ _),r,l.1⟩
theorem tS {d:Array Oper} {S:World->Prop} {K:Act->World->Prop} {r:List (Bool×Nat×Oper)} {k:Nat} {b:Oper} {a:Act} {W:World} {l c:Operand} (i:Region.wanted b (yielded d a.tmps)=true) (e:b.op= .makeSlice 26 l c) (n:Nat) (hn:n<=100000000) (hl:a.eval l= .int .i64 (n:Int)) (hc:a.eval c= .int .i64 (n:Int))
 (f:S (W.alloc (.cells ((List.replicate n false).map vB).toArray 4))) (g:bG Tryz.prog d S K r (a.put b.dst (.slice (some ⟨W.heap.size,0,none⟩) n n)) (W.alloc (.cells ((List.replicate n false).map vB).toArray 4))):bG Tryz.prog d S K ((true,k,b)::r) a W:=by
 refine ie i ?_ f g;have h:=pM n hn W;unfold execOp;simp only[e,hl,hc,Sem.run_bind,Sem.run_pure,Result.andThen_ok,h]
theorem fh {i:Array Oper} {S:World->Prop} {K:Act->World->Prop} {r:List (Bool×Nat×Oper)} {k:Nat} {d:Oper} {a:Act} {W:World} (g:TypeId) (y:Region.wanted d (yielded i a.tmps)=true) (p x:Operand) (m:d.op= .store g p x) (j:TypeId) (b:Nat) (f:Array Value) (c:List Value) (n:aa W b f j)
 (o:a.eval p= .pointer (some ⟨b,0,none⟩)) (q:a.eval x= .agg c.toArray) (s:(Tryz.prog.info? g).map (·.size)=some c.length) (z:c.length=f.size) (t:∀v∈c,v.oneCell'=true)
 (u:S (W.setRow b c.toArray)) (w:bG Tryz.prog i S K r (a.put d.dst undef) (W.setRow b c.toArray)):bG Tryz.prog i S K ((true,k,d)::r) a W:=by
 have l:=jD (P:=Tryz.prog) W j g b 0 f c n s oO t;have e:(splice f.toList 0 c).toArray=c.toArray:=by
  unfold splice;rw[List.take_zero,List.nil_append,List.drop_eq_nil_of_le (by simp[z]),List.append_nil]
 rw[e]at l;refine .inl ⟨y,?_⟩;unfold execOp;simp only[m,o,q,Instr.storeAt,Instr.sureAddr,Sem.run_bind,Sem.run_pure,Result.andThen_ok,l];exact⟨u,w⟩
theorem C6:(Tryz.prog.info? 28).map (·.zero)=some (some (.agg #[.int .i64 0,.int .i64 0,.slice none 0 0])):=oK
theorem I9:(Tryz.prog.info? 28).map (·.size)=some 3:=oK
theorem bc.row {w:World} {db b:Nat} {l:List Bool} (h:bc w db l) (a:Array Value) (c:db≠b):bc (w.setRow b a) db l:=aa.other h a c
abbrev gE (n:Nat) (c:Bool) (C m:Nat):Array Value:=#[.int .i64 (n:Int),.bool c,.int .i64 (C:Int),.int .i64 (m:Int)]
abbrev ox (n H db N:Nat):List Value:=[.int .i64 (n:Int),.int .i64 (H:Int),.slice (some ⟨db,0,none⟩) N N]
def lj (a W:World) (n N db b:Nat):Prop:=bc W db (List.replicate N false)/\aa W b (ox n n db N).toArray 28/\Below a.heap.size a W/\a.heap.size<=db/\a.heap.size<=b/\db≠b
def K9 (d:World) (n N b:Nat) (a a':Act) (W:World):Prop:=∃db c,a'=(((((((((((a.put (some 14) (.pointer (some ⟨b,0,none⟩))).put (some 15) (.int .i64 n)).put (some 16) (.pointer (some ⟨b,0,none⟩))).put (some 17) (.int .i64 n)).put (some 18) (.pointer (some ⟨b,0,none⟩))).put (some 19) (.int .i64 n)).put (some 20) (.pointer (some ⟨b,0,none⟩))).put (some 21) (.int .i64 n)).put (some 22) (.int .i64 N)).put (some 23) (.slice (some ⟨db,0,none⟩) N N)).put (some 24) (.agg (ox n n db N).toArray)).put (some 3) (.pointer (some ⟨c,0,none⟩))/\lj d W n N db c
theorem lj.a {b a:World} {n N:Nat} (c:Below b.heap.size b a):lj b (((a.alloc (.cells ((List.replicate N false).map vB).toArray 4)).alloc (.cells #[.int .i64 0,.int .i64 0,.slice none 0 0] 28)).setRow (a.heap.size+1) (ox n n a.heap.size N).toArray) n N a.heap.size (a.heap.size+1):=by
 have d:bc (a.alloc (.cells ((List.replicate N false).map vB).toArray 4)) a.heap.size (List.replicate N false):=bc.new _ _;have e:aa ((a.alloc (.cells ((List.replicate N false).map vB).toArray 4)).alloc (.cells #[.int .i64 0,.int .i64 0,.slice none 0 0] 28)) (a.heap.size+1) #[.int .i64 0,.int .i64 0,.slice none 0 0] 28:=aa.new _ _ _ _ oS;have hs:=c.size;refine⟨(d.below (ar _ _)).row _ oO,aa.set e _,below_setRow (ae (ae c _) _) oO _,hs,by omega,by omega⟩
theorem lj.b {b a:World} {n N:Nat} (c:Below b.heap.size b a):lj b (((a.alloc (.cells #[.int .i64 0,.int .i64 0,.slice none 0 0] 28)).alloc (.cells ((List.replicate N false).map vB).toArray 4)).setRow a.heap.size (ox n n (a.heap.size+1) N).toArray) n N (a.heap.size+1) a.heap.size:=by
 have d:aa (a.alloc (.cells #[.int .i64 0,.int .i64 0,.slice none 0 0] 28)) a.heap.size #[.int .i64 0,.int .i64 0,.slice none 0 0] 28:=aa.new _ _ _ _ rfl;have e:bc ((a.alloc (.cells #[.int .i64 0,.int .i64 0,.slice none 0 0] 28)).alloc (.cells ((List.replicate N false).map vB).toArray 4)) (a.heap.size+1) (List.replicate N false):=aa.new _ _ _ _ oS;have hs:=c.size;refine⟨e.row _ oO,aa.set (d.below (ar _ _)) _,below_setRow (ae (ae c _) _) oO _,by omega,hs,by omega⟩
def j8 (n C:Nat) (c:Bool) (j:Nat):List Bool:=(List.range (n* n)).map λi=>decide (i<j)&&jz C c (i%n,i/n)
theorem IQ (n C:Nat) (c:Bool):j8 n C c 0=List.replicate (n* n) false:=by
 unfold j8;apply List.ext_getElem oS;intro i a b;simp
theorem JE (n C:Nat) (c:Bool):j8 n C c (n* n)=bk n C c:=by
 unfold j8 bk;apply List.map_congr_left;intro i a;rw[decide_eq_true (List.mem_range.1 a),Bool.true_and]
theorem pF (n C:Nat) (c:Bool) (j:Nat):(j8 n C c j).length=n* n:=by unfold j8;simp
theorem Cm {n C:Nat} {c:Bool} {j i:Nat} (h:i<(j8 n C c j).length):(j8 n C c j)[i]=(decide (i<j)&&jz C c (i%n,i/n)):=by simp[j8]
theorem Iu {n C:Nat} {c:Bool} {j:Nat}:(j8 n C c j).set j (jz C c (j%n,j/n))=j8 n C c (j+1):=by
 apply List.ext_getElem (by rw[List.length_set,pF,pF]);intro i b a;rw[List.getElem_set,Cm a];by_cases h:j=i
 ·subst h;rw[if_pos rfl,decide_eq_true oO,Bool.true_and]
 ·rw[if_neg h,Cm];have:decide (i<j)=decide (i<j+1):=by rw[decide_eq_decide];omega
  rw[this]
theorem Hi {n C:Nat} {c:Bool} {j:Nat} (h:jz C c (j%n,j/n)=false):j8 n C c (j+1)=j8 n C c j:=by
 unfold j8;apply List.map_congr_left;intro i _;by_cases e:i=j
 ·subst e;rw[h,Bool.and_false,Bool.and_false]
 ·have:decide (i<j)=decide (i<j+1):=by rw[decide_eq_decide];omega
  rw[this]
theorem Fw (n C m:Nat) (c:Bool) (w:World) (cx:m=bD c) (c2:m<=C) (hn:n=2* C+1) (ef:n<=1000):Calls Tryz.prog 83 #[fi n c C m] w λe w'=>∃db N,N=n* n/\e= .returned (C7 n n db N)/\w.heap.size<=db/\bc w' db (fY n C c)/\Below w.heap.size w w':=by
 obtain⟨N,be⟩:∃N,N=n* n:=⟨_,rfl⟩;have i4:N<=1000000:=by rw[be];exact Nat.mul_le_mul ef ef
 have i5:(n:Int)* (n:Int)=(N:Int):=by rw[be];simp
 have i0:IntKind.i64.wrap (N:Int)=(N:Int):=aJ _ oO oO;have f4:5<=m/\m<=7:=by rw[cx];cases c<;>decide
 have c3:=Lib.hid cx;have a5:=Lib.hid be;have i6:Hid ((bp C m).length=6/\(bP C m).length=6):=⟨rfl,rfl⟩;have ih:Hid (∀p∈bp C m,p.1<=1000/\p.2<=1000/\df n p<N):=by
  show∀p∈_,_;intro p c4;have h:=pW (C:=C) (s:=m) oO c2 c4;exact⟨by omega,by omega,by rw[be];exact mA oO oO⟩
 have ii:Hid (∀p∈bP C m,p.1<=1000/\p.2<=1000/\df n p<N):=by
  show∀p∈_,_;intro p c4;have h:=lP (C:=C) (s:=m) oO c2 c4;exact⟨by omega,by omega,by rw[be];exact mA oO oO⟩
 have f5:Hid (∀W,Calls Tryz.prog 88 #[fi n c C m] W λe w'=>∃v u,e= .returned (.tuple #[v,u])/\ee W.heap.size w' v (bp C m)/\ee W.heap.size w' u (bP C m)/\Below W.heap.size W w'):=λW=>uP n C m c W c2 oO f4.1;have i7:1<=n:=oO;have i8:C<=1000:=oO;have i9:C<n:=oO;clear cx be hn;obtain⟨O,b2⟩:∃O,O=w.heap.size:=⟨_,rfl⟩;obtain⟨K,cq⟩:∃K,K=w.heap.size+1:=⟨_,rfl⟩;obtain⟨z,bi⟩:∃z,z=(w.alloc (.cells (gE n c C m) 71)).alloc (.cells #[.int .i64 0,.int .i64 0,.slice none 0 0] 28):=⟨_,rfl⟩;have eh:Hid (Below w.heap.size w z):=by show Below _ _ _;rw[bi];exact ae (ar _ _) _
 have ej:Hid (aa z O (gE n c C m) 71):=by
  show aa _ _ _ _;rw[bi];have a1:aa (w.alloc (.cells (gE n c C m) 71)) O (gE n c C m) 71:=aa.new _ _ _ _ b2;exact a1.below (ar _ _)
 have f6:Hid (aa z K #[.int .i64 0,.int .i64 0,.slice none 0 0] 28):=by show aa _ _ _ _;rw[bi];exact aa.new _ _ _ _ (by simp[cq])
 have ek:Hid (w.heap.size<=K/\O<K/\K<z.heap.size):=by show _/\_;rw[bi,cq,b2];simp
 go_enter Tryz.func83,Tryz.ntmps83;go_wp2;simp only[<-cq,<-bi];simp only[<-b2];clear bi;have f7:=Lib.hid b2;clear b2 cq;have a6:Hid (Below z.heap.size z z.drew):=ak (Below.refl _ _);have f8:Hid (∀W,af z W->W.cell? ⟨O,0,none⟩=some (.int .i64 (n:Int))):=λW co=>(ej.out.below co).cell 0 _ rfl;refine kB (S:=af z) (.br [(false,0),(false,1),(false,2),(false,3),(false,4),(false,5),(false,6),(false,7),(false,8)] [9,11] (λk=>if k=9 then .last [(false,10),(true,11),(true,12)]else .last [(true,9),(false,10),(true,12)])) (K9 z n N O) oK oK a6.out ?_ ?_
 ·simp only[wpTree,attachW,List.getElem?_cons_zero,List.getElem?_cons_succ]
  repeat refine zO f8.out ?_
  refine ag ?_;intro k ea;simp only[List.mem_cons,List.not_mem_nil,or_false]at ea;rcases ea with rfl|rfl
  ·simp only[reduceIte,Nat.reduceEqDiff,wpTree,attachW,List.getElem?_cons_zero,List.getElem?_cons_succ];refine' tS rfl rfl N oO rfl rfl (ae a6.out _) ?_;simp only[yQ,yU,yX,yY];refine ag ?_
   (try simp only[reduceIte,Nat.reduceEqDiff,wpTree,attachW,List.getElem?_cons_zero,List.getElem?_cons_succ])
   refine zU ?_;refine' eJ 28 rfl rfl _ C6 (ae (ae a6.out _) _) ?_;simp only[yQ,yU,yX,yY];have M:=Lib.hid (lj.a (n:=n) (N:=N) a6.out);refine fh 28 rfl _ _ rfl 28 (z.drew.heap.size+1) #[.int .i64 0,.int .i64 0,.slice none 0 0] (ox n n z.drew.heap.size N) (aa.new _ _ _ _ oS) (by show _=_;simp;rfl) rfl I9 rfl (by intro v bq;simp only[List.mem_cons,List.not_mem_nil,or_false]at bq;rcases bq with rfl|rfl|rfl<;>rfl) M.out.2.2.1 ?_;simp only[yQ,yU,yX,yY];refine ag ?_;refine⟨_,_,?_,M.out⟩;simp[Act.put,List.setIfInBounds_toArray,List.set_cons_zero,List.set_cons_succ]
  ·simp only[reduceIte,Nat.reduceEqDiff,wpTree,attachW,List.getElem?_cons_zero,List.getElem?_cons_succ];refine' eJ 28 rfl rfl _ C6 (ae a6.out _) ?_;simp only[yQ,yU,yX,yY];refine ag ?_
   (try simp only[reduceIte,Nat.reduceEqDiff,wpTree,attachW,List.getElem?_cons_zero,List.getElem?_cons_succ])
   refine' tS rfl rfl N oO rfl rfl (ae (ae a6.out _) _) ?_;have f9:(z.drew.alloc (.cells #[.int .i64 0,.int .i64 0,.slice none 0 0] 28)).heap.size=z.drew.heap.size+1:=by simp
   simp only[Act.put,List.setIfInBounds_toArray,List.set_cons_zero,List.set_cons_succ,f9];refine zU ?_;have M:=Lib.hid (lj.b (n:=n) (N:=N) a6.out);refine fh 28 rfl _ _ rfl 28 z.drew.heap.size #[.int .i64 0,.int .i64 0,.slice none 0 0] (ox n n (z.drew.heap.size+1) N) ((aa.new z.drew _ _ _ rfl).below (ar _ _)) rfl rfl I9 rfl (by intro v bq;simp only[List.mem_cons,List.not_mem_nil,or_false]at bq;rcases bq with rfl|rfl|rfl<;>rfl) M.out.2.2.1 ?_;simp only[yQ,yU,yX,yY];refine ag ?_;refine⟨_,_,?_,M.out⟩;simp[Act.put,List.setIfInBounds_toArray,List.set_cons_zero,List.set_cons_succ]
 ·rintro a' b ⟨db,bs,rfl,el⟩;have M:=Lib.hid el;clear el;simp only[yQ,yU,yX,yY];have ga:=ek.out;have gb:=M.out.2.2.1.size;have gc:=M.out.2.2.2;have gd:=aw M.out.1;have b3:=aw M.out.2.1;have a2:Hid (O≠db/\bs≠db/\K≠db/\O<b.heap.size/\bs<b.heap.size/\db<b.heap.size/\w.heap.size<=db/\K<b.heap.size/\w.heap.size<=b.heap.size):=by
   show _/\_;have:=eh.out.size;have:=f7.out;omega
  have ge:Hid (Below w.heap.size w b):=ab eh.out M.out.2.2.1;have gg:Hid (aa b O (gE n c C m) 71):=ej.out.below M.out.2.2.1;have gi:Hid (aa b K #[.int .i64 0,.int .i64 0,.slice none 0 0] 28):=f6.out.below M.out.2.2.1;clear ga gb gc gd b3;have f:Hid (∀W,au db b W->((W.cell? ⟨O,0,none⟩=some (.int .i64 (n:Int))/\W.cell? ⟨O,1,none⟩=some (.bool c)/\W.cell? ⟨O,2,none⟩=some (.int .i64 (C:Int))/\W.cell? ⟨O,3,none⟩=some (.int .i64 (m:Int)))/\W.cell? ⟨bs,0,none⟩=some (.int .i64 (n:Int))/\W.cell? ⟨bs,1,none⟩=some (.int .i64 (n:Int))/\W.cell? ⟨bs,2,none⟩=some (.slice (some ⟨db,0,none⟩) N N))):=by
   show∀W,_;intro W co;have a1:=co.row gg.out a2.out.1;have ac:=co.row M.out.2.1 a2.out.2.1;exact⟨⟨a1.cell 0 _ rfl,a1.cell 1 _ rfl,a1.cell 2 _ rfl,a1.cell 3 _ rfl⟩,ac.cell 0 _ rfl,ac.cell 1 _ rfl,ac.cell 2 _ rfl⟩
  obtain⟨⟨B,D,E,F⟩,G,H,J⟩:=f.out b (au.refl _ _);have em:Hid (bc b db (j8 n C c 0)/\au db b b):=by show _/\_;rw[IQ,<-a5.out];exact⟨M.out.1,au.refl _ _⟩
  go_wp2;clear B D E F G H J;go_loopw [28] (λU wr=>∃j:Nat,j<=N/\U= .int .i64 j/\Hid (bc wr db (j8 n C c j)/\au db b wr)) (λU _=>N-(intOf U).toNat)
  case atStart=>exact⟨0,Nat.zero_le _,rfl,em.out⟩
  case round=>
   clear em;obtain⟨j,ad,rfl,t⟩:=hrel;by_cases P:j<N
   ·obtain⟨x,V⟩:∃x,x=j%n:=⟨_,rfl⟩;obtain⟨y,X⟩:∃y,y=j/n:=⟨_,rfl⟩;have jp:x<n:=by rw[V];exact Nat.mod_lt _ oO
    have jr:y<n:=by rw[X];exact(Nat.div_lt_iff_lt_mul oO).2 (by rw[<-a5.out];exact P)
    have jv:¬n=0:=oO;have e9:(j:Int)%(n:Int)=(x:Int):=by rw[V];simp
    have fb:(j:Int)/(n:Int)=(y:Int):=by rw[X];simp
    have j0:(j:Int).tmod (n:Int)=(x:Int):=by rw[Int.tmod_eq_emod_of_nonneg oO];exact e9
    have kb:(j:Int).tdiv (n:Int)=(y:Int):=by rw[Int.tdiv_eq_ediv_of_nonneg oO];exact fb
    have i1:IntKind.i64.wrap (y:Int)=(y:Int):=aJ _ oO oO;obtain⟨d,bt⟩:∃d,d=mo C (x,y):=⟨_,rfl⟩;have kc:d<=1000:=by rw[bt];unfold mo jA;simp only;omega
    have bo:Hid (∀W,Calls Tryz.prog 86 #[fi n c C m,.int .i64 x,.int .i64 y] W λe w'=>e= .returned (.int .i64 (d:Int))/\Below W.heap.size W w'):=λW=>by rw[bt];exact zA n C m x y c W oO oO oO
    have en:Hid (∀W,Calls Tryz.prog 87 #[.int .i64 d] W λe w'=>e= .returned (.bool (d%2==0))/\w'=W):=λW=>AL d W oO;have al:Hid (∀W,Calls Tryz.prog 133 #[fi n c C m,.int .i64 ((x:Int)-(C:Int)),.int .i64 ((y:Int)-(C:Int))] W λe w'=>e= .returned (.bool (rk C (x,y)))/\Below W.heap.size W w'):=λW=>by rw[<-Ca];exact r8 n C m c _ _ W
    have c6:Hid (d<m->jz C c (j%n,j/n)=(d%2==0)):=by
     show _->_;intro h;unfold jz;rw[<-V,<-X,<-bt,if_pos (by rw[<-c3.out];exact h)]
    have c7:Hid (¬d<m->jz C c (j%n,j/n)=(!c&&rk C (x,y))):=by
     show _->_;intro h;unfold jz;rw[<-V,<-X,<-bt,if_neg (by rw[<-c3.out];exact h)]
    have eq:=Lib.hid (@Iu n C c j);have er:=Lib.hid (@Hi n C c j);have a3:Hid (j<(j8 n C c j).length):=by show _<_;rw[pF,<-a5.out];exact P
    clear V X bt;have kd:Hid (∃u v:Int,u=(x:Int)-(C:Int)/\v=(y:Int)-(C:Int)):=⟨_,_,rfl,rfl⟩;generalize jz C c (j%n,j/n)=bv at*;generalize rk C (x,y)=fd at*;generalize j8 n C c j=L at*;have kf:(j:Int)<(N:Int):=oO;have am:Hid (au db b wr.drew):=t.out.2.trans (au.below (ak (Below.refl _ _)));have c8:Hid (bc wr.drew db L):=t.out.1.below (ak (Below.refl _ _));by_cases cr:d<m
    ·have b4:=c6.out cr;subst b4;have go:(d:Int)<(m:Int):=oO;clear c6 c7 al;go_wp2;refine yO (λW=>au db b W) [1,2,3,4,5,6,7,8,9,10] am.out ?_
     repeat refine zO f.out ?_
     refine ag ?_;obtain⟨⟨B,D,E,F⟩,G,H,J⟩:=f.out wr.drew am.out;go_wp2_with(go_at_call 86;refine(bo.out _).mono ?_;rintro e w1 ⟨rfl,Z⟩;have a4:Hid (au db b w1):=am.out.trans (au.below Z);have b5:Hid (bc w1 db L):=c8.out.below Z;clear Z B D E F G H J bo;obtain⟨⟨B,D,E,F⟩,G,H,J⟩:=f.out w1 a4.out)
     have a7:Hid (au db b w1.drew):=a4.out.trans (au.below (ak (Below.refl _ _)));have b6:Hid (bc w1.drew db L):=b5.out.below (ak (Below.refl _ _));clear B D E F G H J;refine yO (λW=>au db b W) [1,2,3,4,0,5,0,6,0,7] a7.out ?_
     repeat refine zO f.out ?_
     refine zZ ?_;refine(en.out _).mono ?_;rintro e w2 ⟨rfl,es⟩;rw[es];clear es;refine⟨_,rfl,a7.out,jO ?_⟩;refine zO f.out ?_;refine' bj (w':=w1.drew.setCell ⟨db,j,none⟩ (.bool (d%2==0))) rfl (oL rfl ⟨db,j,none⟩ _ rfl rfl (b6.out.cell a3.out) (frozen_of_row _ _ _ _ _ b6.out)) (a7.out.trans (au.cY _)) ?_;simp only[yQ,yU,yX,yY];refine ag ?_;have a0:Hid (bc (w1.drew.setCell ⟨db,j,none⟩ (.bool (d%2==0))) db (j8 n C c (j+1))/\au db b (w1.drew.setCell ⟨db,j,none⟩ (.bool (d%2==0)))):=by
      show _/\_;rw[<-eq.out];exact⟨b6.out.set _ _,a7.out.trans (au.cY _)⟩
     go_wp2;exact⟨⟨j+1,by omega,by go_num,a0.out⟩,by simp[intOf];omega⟩
    ·have go:¬(d:Int)<(m:Int):=oO;have km:m<=d:=oO;have kp:decide (d<m)=false:=by simp;omega
     have d7:=Lib.hid (c7.out cr);clear c6 c7 en;cases c with
     |true=>
      have b4:bv=false:=d7.out;subst b4;clear cr;have gq:=Lib.hid (er.out rfl);go_wp2;refine yO (λW=>au db b W) [1,2,3,4,5,6,7,8,9,10] am.out ?_
      repeat refine zO f.out ?_
      refine ag ?_;obtain⟨⟨B,D,E,F⟩,G,H,J⟩:=f.out wr.drew am.out;go_wp2_with(go_at_call 86;refine(bo.out _).mono ?_;rintro e w1 ⟨rfl,Z⟩;have a4:Hid (au db b w1):=am.out.trans (au.below Z);have b5:Hid (bc w1 db L):=c8.out.below Z;clear Z B D E F G H J bo;obtain⟨⟨B,D,E,F⟩,G,H,J⟩:=f.out w1 a4.out)
      exact⟨⟨j+1,by omega,by go_num,by show _/\_;rw[gq.out];exact⟨b5.out,a4.out⟩⟩,by simp[intOf];omega⟩
     |false=>
      have b4:bv=fd:=d7.out;subst b4;clear cr er d7;go_wp2;refine yO (λW=>au db b W) [1,2,3,4,5,6,7,8,9,10] am.out ?_
      repeat refine zO f.out ?_
      refine ag ?_;obtain⟨⟨B,D,E,F⟩,G,H,J⟩:=f.out wr.drew am.out;go_wp2_with(go_at_call 86;refine(bo.out _).mono ?_;rintro e w1 ⟨rfl,Z⟩;have a4:Hid (au db b w1):=am.out.trans (au.below Z);have b5:Hid (bc w1 db L):=c8.out.below Z;clear Z B D E F G H J bo;obtain⟨⟨B,D,E,F⟩,G,H,J⟩:=f.out w1 a4.out)
      have a7:Hid (au db b w1.drew):=a4.out.trans (au.below (ak (Below.refl _ _)));have b6:Hid (bc w1.drew db L):=b5.out.below (ak (Below.refl _ _));clear B D E F G H J;have ks:IntKind.i64.wrap ((x:Int)-(C:Int))=(x:Int)-(C:Int):=aJ _ oO oO;have kv:IntKind.i64.wrap ((y:Int)-(C:Int))=(y:Int)-(C:Int):=aJ _ oO oO;refine yO (λW=>au db b W) [1,2,3,4,5,6,7,8,9,10,11,12,0,13,0,14,0,15] a7.out ?_;refine zO f.out ?_;refine zO f.out ?_;refine zO f.out ?_;refine zO f.out ?_;refine zO f.out ?_;refine zO f.out ?_;refine zO f.out ?_;refine zO f.out ?_;refine zO f.out ?_;refine zO f.out ?_;refine zO f.out ?_;refine zO f.out ?_;refine zZ ?_;refine(al.out _).mono ?_;rintro e w2 ⟨rfl,c9⟩;have dl:Hid (au db b w2):=a7.out.trans (au.below c9);have dm:Hid (bc w2 db L):=b6.out.below c9;clear c9;refine⟨_,rfl,dl.out,jO ?_⟩;refine zO f.out ?_;refine' bj (w':=w2.setCell ⟨db,j,none⟩ (.bool bv)) rfl (oL rfl ⟨db,j,none⟩ _ rfl rfl (dm.out.cell a3.out) (frozen_of_row _ _ _ _ _ dm.out)) (dl.out.trans (au.cY _)) ?_;simp only[yQ,yU,yX,yY];refine ag ?_;have a0:Hid (bc (w2.setCell ⟨db,j,none⟩ (.bool bv)) db (j8 n C false (j+1))/\au db b (w2.setCell ⟨db,j,none⟩ (.bool bv))):=by
       show _/\_;rw[<-eq.out];exact⟨dm.out.set _ _,dl.out.trans (au.cY _)⟩
      go_wp2;exact⟨⟨j+1,by omega,by go_num,a0.out⟩,by simp[intOf];omega⟩
   ·obtain rfl:N=j:=oO;obtain⟨ap,rfl⟩:∃x,x=wr:=⟨_,rfl⟩;have gs:Hid (bc ap db (bk n C c)):=by show bc _ _ _;rw[<-JE,<-a5.out];exact t.out.1
    have dn:Hid (au db b ap):=t.out.2;clear t;obtain⟨⟨B,D,E,F⟩,G,H,J⟩:=f.out ap dn.out;go_wp2_with(go_at_call 88;refine(f5.out _).mono ?_;rintro e Q ⟨v4,u4,rfl,b3,ds,dx⟩;obtain⟨fn,i2,rfl,gt,gx,gy⟩:=id b3.1;obtain⟨c5,ec,rfl,gL,gN,gX⟩:=id ds.1;have et:=Lib.hid b3;have eu:=Lib.hid ds;have ex:Hid (au db b Q):=dn.out.trans (au.below dx);have gY:Hid (bc Q db (bk n C c)):=gs.out.below dx;have dy:Hid (db<ap.heap.size):=Nat.lt_of_lt_of_le a2.out.2.2.2.2.2.1 dn.out.sz;clear dx b3 ds gt gx gy gL gN gX B D E F G H J)
    have ey:Hid (bc Q db (wrL n (bk n C c) ((bp C m).take 0) (fL.take 0))/\au db Q Q):=by show _/\_;rw[List.take_zero,iP];exact⟨gY.out,au.refl _ _⟩
    have io:Hid (∀j,j<6->∃g o,fn=some ⟨g,o,none⟩/\g<Q.heap.size/\g≠db/\Q.cell? ⟨g,o+j* 2,none⟩=some (.int .i64 (((bp C m).getD j (0,0)).1:Int))/\Q.cell? ⟨g,o+j* 2+1,none⟩=some (.int .i64 (((bp C m).getD j (0,0)).2:Int))):=by
     show∀j,_;intro j ad;obtain⟨A,k,e,-,-,h⟩:=et.out.1;obtain⟨g,o,e2,ac,bx⟩:=h (by show 0<6;omega);injection e with e3 _ _;have cp:ap.heap.size<=g:=et.out.2 _ _ _ _ rfl (e3.trans e2);have b1:=dy.out;have bf:=bx j ad;exact⟨g,o,e3.trans e2,ac,by omega,bf⟩
    go_wp2;go_loopw [80] (λU wr=>∃j:Nat,j<=6/\U= .int .i64 j/\Hid (bc wr db (wrL n (bk n C c) ((bp C m).take j) (fL.take j))/\au db Q wr)) (λU _=>6-(intOf U).toNat)
    case atStart=>exact⟨0,Nat.zero_le _,rfl,ey.out⟩
    case round=>
     clear ey;obtain⟨j,ad,rfl,t⟩:=hrel;by_cases P:j<6
     ·obtain⟨g,o,rfl,b7,b8,V,X⟩:=io.out j P;have b9:(bp C m).getD j (0,0)∈bp C m:=by
       have:j<(bp C m).length:=P;simp only[List.getD,List.getElem?_eq_getElem this,Option.getD_some];exact List.getElem_mem this
      obtain⟨g0,g1,ch⟩:=ih.out _ b9;have ca:fL.getD j false=true:=by
       have:∀j,j<6->fL.getD j false=true:=by decide
       exact this j P
      have ck:Hid (wrL n (bk n C c) ((bp C m).take (j+1)) (fL.take (j+1))=(wrL n (bk n C c) ((bp C m).take j) (fL.take j)).set (df n ((bp C m).getD j (0,0))) true):=by
       have:=mV n (bk n C c) (bp C m) fL (i:=j) P P;rw[ca]at this;exact this
      have a3:Hid ((wrL n (bk n C c) ((bp C m).take j) (fL.take j)).length=N):=by show _=_;rw[dk,fD,a5.out]
      generalize(bp C m).getD j (0,0)=p at*;generalize wrL n (bk n C c) ((bp C m).take j) (fL.take j)=L at*;have cb:au db b wr:=ex.out.trans t.out.2;have e1:wr.cell? ⟨g,o+j* 2,none⟩=some (.int .i64 (p.1:Int)):=(t.out.2.cell (a:=⟨g,o+j* 2,none⟩) b7 b8).trans V;have e2:wr.cell? ⟨g,o+j* 2+1,none⟩=some (.int .i64 (p.2:Int)):=(t.out.2.cell (a:=⟨g,o+j* 2+1,none⟩) b7 b8).trans X;obtain⟨l,av⟩:∃l,l=wr.alloc (.cells #[.int .i64 (p.1:Int),.int .i64 (p.2:Int)] 47):=⟨_,rfl⟩;obtain⟨Y,a8⟩:∃Y,Y=wr.heap.size:=⟨_,rfl⟩;have a9:Hid (Below wr.heap.size wr l):=by show Below _ _ _;rw[av];exact ar _ _
      have ce:Hid (aa l Y #[.int .i64 (p.1:Int),.int .i64 (p.2:Int)] 47):=by show aa _ _ _ _;rw[av,a8];exact aa.new _ _ _ _ oS
      have bb:Hid (bc l db L):=t.out.1.below a9.out;have d0:Hid (au db b l):=cb.trans (au.below a9.out);have d1:Hid (au db Q l):=t.out.2.trans (au.below a9.out);have cg:l.cell? ⟨Y,0,none⟩=some (.int .i64 (p.1:Int)):=ce.out.cell 0 _ rfl;have ci:l.cell? ⟨Y,1,none⟩=some (.int .i64 (p.2:Int)):=ce.out.cell 1 _ rfl;obtain⟨⟨B,D,E,F⟩,G,H,J⟩:=f.out l d0.out;obtain⟨q,hq⟩:∃q,q=p.2* n:=⟨_,rfl⟩;obtain⟨r,bd⟩:∃r,r=df n p:=⟨_,rfl⟩;have d2:r=q+p.1:=by rw[bd,hq];rfl
      rw[<-bd]at ch ck;have g2:q<=1000000:=oO;have g3:(p.2:Int)* (n:Int)=(q:Int):=by rw[hq];simp
      have fo:IntKind.i64.wrap (q:Int)=(q:Int):=aJ _ oO oO;have fr:IntKind.i64.wrap ((q:Int)+(p.1:Int))=(r:Int):=by rw[aJ _ oO oO];omega
      have g4:(q:Int)+(p.1:Int)=(r:Int):=oO;have ip:(r:Int)<(N:Int):=oO;have d8:Hid (r<L.length):=by show _<_;rw[a3.out];exact ch
      have g5:(j:Int)<6:=oO;have d3:l.cell? ⟨db,r,none⟩=some (.bool (L.getD r false)):=bb.out.cell d8.out;have d4:l.frozen? ⟨db,r,none⟩=false:=frozen_of_row _ _ _ _ _ bb.out;have a0:Hid (bc (l.setCell ⟨db,r,none⟩ (.bool true)) db (wrL n (bk n C c) ((bp C m).take (j+1)) (fL.take (j+1)))/\au db Q (l.setCell ⟨db,r,none⟩ (.bool true))):=by
       show _/\_;rw[ck.out];exact⟨bb.out.set _ _,d1.out.trans (au.cY _)⟩
      rw[av]at B D E F G H J d3 d4 a0 cg ci;rw[a8]at cg ci;clear hq bd d2 b9 a3 ca V X cb av a8;go_wp2;exact⟨⟨j+1,by omega,by go_num,a0.out⟩,by simp[intOf];omega⟩
     ·obtain rfl:j=6:=oO;have g6:Hid (bc wr db (wrL n (bk n C c) (bp C m) fL)):=t.out.1;have cs:Hid (au db Q wr):=t.out.2;clear t;have cv:Hid (ee ap.heap.size Q (.slice c5 (bP C m).length ec) (bP C m)):=eu;obtain⟨T,rfl⟩:∃x,x=wr:=⟨_,rfl⟩;have ez:Hid (au db b T):=ex.out.trans cs.out;have it:Hid (ee ap.heap.size T (.slice c5 (bP C m).length ec) (bP C m)):=by
       obtain⟨⟨A,k,e,a1,ac,bx⟩,cp⟩:=eu.out;refine⟨⟨A,k,e,a1,ac,λfv=>?_⟩,cp⟩;obtain⟨g,o,e2,b1,bf⟩:=bx fv;have fx:=cp A _ _ _ e e2;have i3:=dy.out;have ed:g≠db:=by show g≠db;have:ap.heap.size<=g:=fx;omega
       exact⟨g,o,e2,Nat.lt_of_lt_of_le b1 cs.out.sz,λj ad=>⟨(cs.out.cell (a:=⟨g,o+j* 2,none⟩) b1 ed).trans (bf j ad).1,(cs.out.cell (a:=⟨g,o+j* 2+1,none⟩) b1 ed).trans (bf j ad).2⟩⟩
      have g7:=g6;have g8:=dy;clear cv;have cv:=it;have e0:Hid (bc T db (wrL n (wrL n (bk n C c) (bp C m) fL) ((bP C m).take 0) (o5.take 0))/\au db T T):=by show _/\_;rw[List.take_zero,iP];exact⟨g7.out,au.refl _ _⟩
      have iv:Hid (∀j,j<6->∃g o,c5=some ⟨g,o,none⟩/\g<T.heap.size/\g≠db/\T.cell? ⟨g,o+j* 2,none⟩=some (.int .i64 (((bP C m).getD j (0,0)).1:Int))/\T.cell? ⟨g,o+j* 2+1,none⟩=some (.int .i64 (((bP C m).getD j (0,0)).2:Int))):=by
       show∀j,_;intro j ad;obtain⟨A,k,e,-,-,h⟩:=cv.out.1;obtain⟨g,o,e2,ac,bx⟩:=h (by show 0<6;omega);injection e with e3 _ _;have cp:ap.heap.size<=g:=cv.out.2 _ _ _ _ rfl (e3.trans e2);have b1:=g8.out;have bf:=bx j ad;exact⟨g,o,e3.trans e2,ac,by omega,bf⟩
      go_wp2;go_loopw [98] (λU wr=>∃j:Nat,j<=6/\U= .int .i64 j/\Hid (bc wr db (wrL n (wrL n (bk n C c) (bp C m) fL) ((bP C m).take j) (o5.take j))/\au db T wr)) (λU _=>6-(intOf U).toNat)
      case atStart=>exact⟨0,Nat.zero_le _,rfl,e0.out⟩
      case round=>
       clear e0;obtain⟨j,ad,rfl,t⟩:=hrel;by_cases P:j<6
       ·obtain⟨g,o,rfl,b7,b8,V,X⟩:=iv.out j P;have b9:(bP C m).getD j (0,0)∈bP C m:=by
         have:j<(bP C m).length:=P;simp only[List.getD,List.getElem?_eq_getElem this,Option.getD_some];exact List.getElem_mem this
        obtain⟨g0,g1,ch⟩:=ii.out _ b9;have ca:o5.getD j false=false:=by
         have:∀j,j<6->o5.getD j false=false:=by decide
         exact this j P
        have ck:Hid (wrL n (wrL n (bk n C c) (bp C m) fL) ((bP C m).take (j+1)) (o5.take (j+1))=(wrL n (wrL n (bk n C c) (bp C m) fL) ((bP C m).take j) (o5.take j)).set (df n ((bP C m).getD j (0,0))) false):=by
         have:=mV n (wrL n (bk n C c) (bp C m) fL) (bP C m) o5 (i:=j) P P;rw[ca]at this;exact this
        have a3:Hid ((wrL n (wrL n (bk n C c) (bp C m) fL) ((bP C m).take j) (o5.take j)).length=N):=by show _=_;rw[dk,dk,fD,a5.out]
        generalize(bP C m).getD j (0,0)=p at*;generalize wrL n (wrL n (bk n C c) (bp C m) fL) ((bP C m).take j) (o5.take j)=L at*;have cb:au db b wr:=ez.out.trans t.out.2;have e1:wr.cell? ⟨g,o+j* 2,none⟩=some (.int .i64 (p.1:Int)):=(t.out.2.cell (a:=⟨g,o+j* 2,none⟩) b7 b8).trans V;have e2:wr.cell? ⟨g,o+j* 2+1,none⟩=some (.int .i64 (p.2:Int)):=(t.out.2.cell (a:=⟨g,o+j* 2+1,none⟩) b7 b8).trans X;obtain⟨l,av⟩:∃l,l=wr.alloc (.cells #[.int .i64 (p.1:Int),.int .i64 (p.2:Int)] 47):=⟨_,rfl⟩;obtain⟨Y,a8⟩:∃Y,Y=wr.heap.size:=⟨_,rfl⟩;have a9:Hid (Below wr.heap.size wr l):=by show Below _ _ _;rw[av];exact ar _ _
        have ce:Hid (aa l Y #[.int .i64 (p.1:Int),.int .i64 (p.2:Int)] 47):=by show aa _ _ _ _;rw[av,a8];exact aa.new _ _ _ _ oS
        have bb:Hid (bc l db L):=t.out.1.below a9.out;have d0:Hid (au db b l):=cb.trans (au.below a9.out);have d1:Hid (au db T l):=t.out.2.trans (au.below a9.out);have cg:l.cell? ⟨Y,0,none⟩=some (.int .i64 (p.1:Int)):=ce.out.cell 0 _ rfl;have ci:l.cell? ⟨Y,1,none⟩=some (.int .i64 (p.2:Int)):=ce.out.cell 1 _ rfl;obtain⟨⟨B,D,E,F⟩,G,H,J⟩:=f.out l d0.out;obtain⟨q,hq⟩:∃q,q=p.2* n:=⟨_,rfl⟩;obtain⟨r,bd⟩:∃r,r=df n p:=⟨_,rfl⟩;have d2:r=q+p.1:=by rw[bd,hq];rfl
        rw[<-bd]at ch ck;have g2:q<=1000000:=oO;have g3:(p.2:Int)* (n:Int)=(q:Int):=by rw[hq];simp
        have fo:IntKind.i64.wrap (q:Int)=(q:Int):=aJ _ oO oO;have fr:IntKind.i64.wrap ((q:Int)+(p.1:Int))=(r:Int):=by rw[aJ _ oO oO];omega
        have g4:(q:Int)+(p.1:Int)=(r:Int):=oO;have ip:(r:Int)<(N:Int):=oO;have d8:Hid (r<L.length):=by show _<_;rw[a3.out];exact ch
        have g5:(j:Int)<6:=oO;have d3:l.cell? ⟨db,r,none⟩=some (.bool (L.getD r false)):=bb.out.cell d8.out;have d4:l.frozen? ⟨db,r,none⟩=false:=frozen_of_row _ _ _ _ _ bb.out;have a0:Hid (bc (l.setCell ⟨db,r,none⟩ (.bool false)) db (wrL n (wrL n (bk n C c) (bp C m) fL) ((bP C m).take (j+1)) (o5.take (j+1)))/\au db T (l.setCell ⟨db,r,none⟩ (.bool false))):=by
         show _/\_;rw[ck.out];exact⟨bb.out.set _ _,d1.out.trans (au.cY _)⟩
        rw[av]at B D E F G H J d3 d4 a0 cg ci;rw[a8]at cg ci;clear hq bd d2 b9 a3 ca V X cb av a8;go_wp2;exact⟨⟨j+1,by omega,by go_num,a0.out⟩,by simp[intOf];omega⟩
       ·obtain rfl:j=6:=oO;have HEq:Hid (bc wr db (wrL n (wrL n (bk n C c) (bp C m) fL) (bP C m) o5)):=t.out.1;have ix:Hid (au db T wr):=t.out.2;clear t;have d5:Hid (au db b wr):=ez.out.trans ix.out;obtain⟨⟨B,D,E,F⟩,G,H,J⟩:=f.out wr d5.out;have al:Hid (aa wr K #[.int .i64 0,.int .i64 0,.slice none 0 0] 28):=d5.out.row gi.out a2.out.2.2.1;have c0:wr.cell? ⟨K,0,none⟩=some (.int .i64 0):=al.out.cell 0 _ rfl;have c1:wr.cell? ⟨K,1,none⟩=some (.int .i64 0):=al.out.cell 1 _ rfl;have f0:wr.cell? ⟨K,2,none⟩=some (.slice none 0 0):=al.out.cell 2 _ rfl;have f1:wr.frozen? ⟨K,0,none⟩=false:=frozen_of_row _ _ _ _ _ al.out;have f2:wr.frozen? ⟨K,1,none⟩=false:=frozen_of_row _ _ _ _ _ al.out;have f3:wr.frozen? ⟨K,2,none⟩=false:=frozen_of_row _ _ _ _ _ al.out;have g9:Hid (Below w.heap.size w wr):=ge.out.trans (d5.out.to a2.out.2.2.2.2.2.2.1 a2.out.2.2.2.2.2.2.2.2);have ib:Hid (wrL n (wrL n (bk n C c) (bp C m) fL) (bP C m) o5=fY n C c):=by show _=_;unfold fY;rw[<-c3.out]
        have d9:w.heap.size<=K:=ek.out.1;go_wp2;refine bodyPost_ret (v:=C7 n n db N) (by simp[results,Tryz.results83,go_sem,c0,c1,f0,f1,f2,f3]) rfl ⟨db,N,a5.out,rfl,a2.out.2.2.2.2.2.2.1,?_,?_⟩
        ·rw[<-ib.out];have d6:db≠K:=(a2.out.2.2.1).symm;exact((aa.bw (aa.bw (aa.bw HEq.out _ _ d6) _ _ d6) _ _ d6))
        ·exact((g9.out.setCell d9 _).setCell d9 _).setCell d9 _
end
end Go.Proofs.YtmnlkganmgcpbaaGreatDoor
