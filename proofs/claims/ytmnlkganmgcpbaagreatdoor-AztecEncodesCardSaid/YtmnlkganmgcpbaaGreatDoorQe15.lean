import Derived.Test.YtmnlkganmgcpbaaGreatDoorQe14
set_option maxRecDepth 100000
set_option maxHeartbeats 4000000
set_option linter.unusedVariables false
set_option linter.unusedSectionVars false
set_option linter.unusedSimpArgs false
namespace Go.Proofs.YtmnlkganmgcpbaaGreatDoor
section
open Go.RowKit
theorem vt (xs:List Nat) {k:Nat} (a:k<xs.length):xs.take (k+1)=xs.take k++[xs.getD k 0]:=by
 rw[List.take_add_one];have:xs[k]?=some (xs.getD k 0):=by simp[List.getD,a]
 rw[this];rfl
section
open Fl
variable {c s p : Nat} (h : VF c s p)
include h
end
theorem sI (A:Option Addr) (m c:Nat) (b:List Bool) (v n:Nat) (w:World) (f:v<=1000000000000) (hn:n<=62) (Q:m<=1000) (hb:SR vB false w A m c b):
 Calls Tryz.prog 59 #[.slice A m c,.int .i64 v,.int .i64 n] w (RT vB false w (b++aH v n,0)):=by
 obtain⟨s,t,E,F,G⟩:=info_parts fe;obtain⟨N,S⟩:∃N,m+n=N:=⟨_,rfl⟩;have U:(m:Int)+(n:Int)=(N:Int):=oO;have l:m<=N:=oO;have V:N<=1062:=oO;have X:∀W:World,(Instr.makeSlice 26 (.int .i64 (m:Int)) (.int .i64 (N:Int))).run Tryz.prog W= .ok (.slice (some ⟨W.heap.size,0,none⟩) m N) (W.alloc (.cells (madeCells #[Value.bool false] N) 4)):=λW=>by
  have h:=run_make (P:=Tryz.prog) W 26 4 s (.bool false) Tryz.underlying26 t E .i64 .i64 (m:Int) (N:Int) oO oO (by rw[G];omega) oO;rw[F,Nat.mul_one]at h;simp only[Int.toNat_natCast]at h;exact h
 have x:=Lib.hid hb;have a:Hid (m=b.length):=hb.hn;have H:Hid (∀w2:World,w2.heap[w.heap.size]?=some (.cells (splice (madeCells #[Value.bool false] N).toList 0 (b.map vB)).toArray 4 (0,0))->w2.ownsRow w.heap.size 4 1 (.slice (some ⟨w.heap.size,0,none⟩) m N) b.length (b.map vB)):=by
  show∀_,_;intro w2 d;have hl:(madeCells #[Value.bool false] N).toList.length=N:=by simp[madeCells]
  have J:(splice (madeCells #[Value.bool false] N).toList 0 (b.map vB)).length=N:=by rw[length_splice _ _ _ (by rw[hl,List.length_map,<-a.out];omega),hl]
  refine⟨by simp,.inr ⟨w.heap.size,N,_,by rw[a.out],Nat.le_refl _,d,by rw[<-a.out];exact l,by unfold maxLen;omega,by simpa using J,?_⟩⟩;simp[splice,List.take_append]
 have z:Hid (∀W,af w W->0<(b.map vB).length->∃g,A=some g/\∀j v,(b.map vB)[j]?=some v->W.cell? (g.add j)=some v):=by
  show∀W,_;intro W B i;obtain⟨g,e,C,d⟩:=x.out.rd (by simpa using i);refine⟨g,e,λj v f=>?_⟩;rw[B.cell (by rw[aV];exact C)];have k:j<b.length:=by
   rcases Nat.lt_or_ge j b.length with h|h
   ·exact h
   ·rw[List.getElem?_eq_none (by simpa using h)]at f;cases f
  rw[d j k];simpa[List.getD,k]using f
 have Y:m<=1048576-n:=oO;have K:Hid (b.length<=100000000):=by show _<=_;rw[<-a.out];omega
 clear hb;go_enter Tryz.func59,Tryz.ntmps59
 go_wp2_with(first
  |((with_reducible show wpList _ _ _ (⟨_,Op.call ⟨Callee.builtin Builtin.copy,_,_⟩,_,_,_,_⟩::_) _ _);(refine wpList_copy_splice rfl _ _ 26 26 rfl 4 Tryz.underlying26 FQ _ A m N m c rfl rfl w.heap.size 0 (madeCells #[Value.bool false] N).toList 4 (heap_alloc_new _ _) (b.map vB) (by rw[List.length_map,<-a.out];exact(Nat.min_self m).symm) (λi=>⟨rfl,z.out _ (ar _ _) i⟩) (by simp[madeCells];rw[<-a.out];exact l) (λu D=>by obtain⟨y,_,rfl⟩:=List.mem_map.1 D;rfl) w.heap.size w (ar _ _) (Nat.le_refl _) ?_);intro w2 d o;have L:=Lib.hid (H.out w2 d.out);have p:=Lib.hid o;clear d o)
  |(go_at_call 108;refine(mg w.heap.size b _ v n _ f hn K.out p.out.size L.out).mono ?_;rintro e T ⟨u3,rfl,q,r⟩;have M:=Lib.hid q;have O:=Lib.hid r;clear q r))
 go_ret2
 exact RT.mk rfl (SG.bU M.out) (p.out.trans O.out)
def bN (b:List Bool) (s m:Nat):List Nat:=(List.range m).map λi=>numF b (i* s) s
theorem gn (b:List Bool) (s m:Nat):(bN b s m).length=m:=by unfold bN;simp
theorem su (b:List Bool) (s m:Nat):bN b s (m+1)=bN b s m++[numF b (m* s) s]:=by unfold bN;rw[List.range_succ,List.map_append];rfl
theorem vX (b:List Bool) (s m:Nat):aA (2^s) (bN b s m):=λi=>by
 have a:1<=2^s:=Nat.one_le_two_pow;rcases Nat.lt_or_ge i m with h|h
 ·unfold bN;rw[bY _ _ _ h];exact rM _ _ _
 ·rw[j4 (by rw[gn];exact h)];omega
theorem SR.piece {α:Type} {f:α->Value} {d:α} {w:World} {b:Addr} {n c:Nat} {l:List α} (h:SR f d w (some b) n c l) (a k c':Nat) (g:a+k<=n) (hc:k<=c') (e:c'<=c):SR f d w (some (b.add a)) k c' ((l.drop a).take k):=by
 have hn:=h.hn;refine⟨by rw[List.length_take,List.length_drop];omega,hc,Nat.le_trans e h.hm,?_⟩;exact(h.rd.drop a).take k
theorem tH (b:List Bool) (a k:Nat):numF ((b.drop a).take k) 0 k=numF b a k:=by
 rw[FR _ _ _ _ oO,EV,Nat.add_zero]
theorem sN {P:Program} {c:Array Oper} {d:List Oper} {b:Oper} {a:Act} {Q:Exit->Act->World->Prop} {w:World} {v:Value} (i:Region.wanted b (yielded c a.tmps)=true) (e:(execOp a.eval b).run P w= .ok (.value v) w) (f:wpList P c Q d (a.put b.dst v) w):wpList P c Q (b::d) a w:=by
 refine wpList_step λK g=>?_;simp only[i,if_true];unfold Oper.wp;rw[e];exact g _ _ f
theorem sQ {a:Act} {e:Oper} {W:World} {x i j:Operand} (g:e.op= .slice 26 x (some i) (some j) none) {b:Addr} {n c:Nat} (l:a.eval x= .slice (some b) n c) {I f:Int} (o:a.eval i= .int .i64 I) (p:a.eval j= .int .i64 f) (k m:Nat) (q:I=(k:Int)) (r:f=(m:Int)) (t:k<=m) (u:m<=c) (hc:k<c):
 (execOp a.eval e).run Tryz.prog W= .ok (.value (.slice (some (b.add k)) (m-k) (c-k))) W:=by
 subst q r;have d:=run_slice_lh (P:=Tryz.prog) W 26 (some b) n c xY .i64 .i64 (k:Int) (m:Int) oO oO oO;rw[Ec]at d;simp only[Result.andThen_ok,sliced,Int.toNat_natCast,Nat.mul_one,Option.map_some]at d;rw[if_neg oO]at d;have s:=run_sliceAt_slice (P:=Tryz.prog) W 26 (.slice (some b) n c) (some (.int .i64 (k:Int))) (some (.int .i64 (m:Int))) none xY;unfold execOp;simp only[g,l,o,p,Option.map_some,Option.map_none,Sem.run_bind,Sem.run_pure,Result.andThen_ok,s,d]
theorem DW (A:Option Addr) (n c s m:Nat) (b:List Bool) (w:World) (Z:1<=s) (hs:s<=12) (o:n=m* s) (hn:n<=100000) (hb:SR vB false w A n c b):
 Calls Tryz.prog 60 #[.slice A n c,.int .i64 s,.bool false] w (RT vN 0 w (bN b s m,0)):=by
 obtain⟨y,z,H,J,K⟩:=info_parts dd;have k:=Lib.hid hb;have p:=Lib.hid o;have ac:m<=n:=by rw[o];exact Nat.le_mul_of_pos_right m oO
 clear hb o;go_enter Tryz.func60,Tryz.ntmps60;go_wp2;go_loopw [8,9] (λB q wr=>∃i a:Nat,i<=m/\a<=n/\q= .int .i64 a/\Hid (a=i* s)/\Hid (OG vN 3 w wr B (bN b s i))) (λ_ q _=>n-(intOf q).toNat)
 case atStart=>exact⟨0,0,Nat.zero_le _,Nat.zero_le _,rfl,by show _=_;rw[Nat.zero_mul],OG.start _ _⟩
 case round=>
  obtain⟨i,a,ad,al,rfl,j,g⟩:=hrel;by_cases am:a<n
  ·have ap:i<m:=by
    apply Classical.byContradiction;intro h;have:i=m:=oO;have l:=j.out;rw[this,<-p.out]at l;omega
   obtain⟨E,r⟩:∃E,E=a+s:=⟨_,rfl⟩;have L:E<=n:=by
    have l:=j.out;have W:=p.out;have C:(i+1)* s<=m* s:=Nat.mul_le_mul_right s oO;rw[Nat.add_mul,Nat.one_mul]at C;omega
   have av:(a:Int)+(s:Int)=(E:Int):=oO;have a0:min (E:Int) (n:Int)=(E:Int):=oO;have M:=Lib.hid (k.out.below g.out.B);have N:=k.out.hc;obtain⟨D,rfl,-,-⟩:=k.out.rd (by rw[<-k.out.hn];omega);have O:Hid (a<=E):=by show _<=_;omega
   have P:Hid (E<=c):=by show _<=_;omega
   have Q:Hid (a<c):=by show _<_;omega
   have S:Hid (E-a=s):=by show _=_;omega
   have T:Hid (E=(i+1)* s):=by show _=_;rw[r,j.out,Nat.add_mul,Nat.one_mul]
   have U:Hid (Calls Tryz.prog 109 #[.slice (some (D.add a)) s (c-a)] wr λe w'=>e= .returned (.int .i64 ((numF b a s:Nat):Int))/\w'=wr):=by
    show Calls _ _ _ _ _;rw[<-tH];exact D2 _ s _ _ wr oO (M.out.piece a s _ oO oO oO)
   have V:Hid (bN b s (i+1)=bN b s i++[numF b a s]):=by show _=_;rw[su,j.out]
   have t:Hid ((bN b s i).length<=100000):=by show _<=_;rw[gn];omega
   generalize numF b a s=x at*;have has:a+s<=100012:=oO;clear N r
   go_wp2_with(first
    |((with_reducible show wpList _ _ _ (⟨_,Op.slice 26 _ _ _ _,_,_,_,_⟩::_) _ _);refine sN rfl (sQ rfl rfl rfl rfl a E rfl rfl O.out P.out Q.out) ?_;rw[S.out])
    |(go_at_call 109;refine U.out.mono ?_;rintro e w' ⟨rfl,u⟩;rw[u];clear u))
   refine wp_loop_rounds 1 ?_;rw[rounds_succ];go_wp2_with(at_builtin;refine aD (f:=vN) (d:=0) mY rfl _ _ _ rfl w.heap.size 3 y _ 8 Tryz.underlying64 z H J K rfl _ (bN b s i).length (bN b s i) rfl (ah g.out.O (ar _ _)) (some ⟨wr.heap.size,0,none⟩) 1 1 [x] rfl rfl (RG.one _ _ _ _ rfl) (by have:=t.out;unfold maxLen;omega) (by have:=t.out;omega) (by have:=g.out.B.size;simp;omega) ?_;intro X Y v hg;have F:=Lib.hid (g.out.grow (ar _ _) v hg);clear v hg)
   exact⟨⟨i+1,E,by omega,L,by go_num,T,by show OG _ _ _ _ _ _;rw[V.out];exact F.out⟩,by simp[intOf];omega⟩
  ·obtain rfl:a=n:=oO;have G:Hid (bN b s i=bN b s m):=by
    show _=_;have l:i* s=m* s:=by rw[<-j.out,p.out]
    have:i=m:=Nat.eq_of_mul_eq_mul_right oO l;rw[this]
   go_wp2;go_ret2
   exact RT.mk rfl (by rw[<-G.out];exact g.out.sg) g.out.B
def cT (l:List Nat) (s:Nat):List Bool:=l.flatMap λv=>aH v s
theorem iX (l:List Nat) (s:Nat):(cT l s).length=l.length* s:=by
 induction l with
 |nil=>simp[cT]
 |cons v l a=>
  show(aH v s++cT l s).length=_;rw[List.length_append,bm,a,List.length_cons,Nat.add_mul,Nat.one_mul,Nat.add_comm]
theorem Dj (l:List Nat) (v s:Nat):cT (l++[v]) s=cT l s++aH v s:=by simp[cT]
theorem pz (l:List Nat) (s:Nat) {i:Nat} (a:i<l.length):cT (l.take (i+1)) s=cT (l.take i) s++aH (l.getD i 0) s:=by
 rw[vt l a,Dj]
theorem qu (A:Option Addr) (n c s:Nat) (l:List Nat) (w:World) (T:1<=s) (hs:s<=12) (hn:n<=8000) (hl:aA (2^s) l) (hb:SR vN 0 w A n c l):
 Calls Tryz.prog 63 #[.slice A n c,.int .i64 s] w (RT vB false w (cT l s,0)):=by
 obtain⟨t,u,C,D,E⟩:=info_parts fe;have v:=Lib.hid hb;have a:Hid (n=l.length):=hb.hn;have y:=Lib.hid hl;obtain⟨N,b⟩:∃N,N=n* s:=⟨_,rfl⟩;have U:N<=96000:=by rw[b];exact Nat.mul_le_mul hn hs
 have V:(n:Int)* (s:Int)=(N:Int):=by rw[b];simp
 have hq:decide ((1048576:Int)/(s:Int)<(n:Int))=false:=by
  have z:(8000:Int)<=1048576/(s:Int):=Int.le_ediv_of_mul_le oO oO;simp;omega
 clear hb hl b;go_enter Tryz.func63,Tryz.ntmps63;go_wp2_with(at_make;refine wpList_make_own _ rfl _ _ _ rfl w.heap.size 4 t _ 1 Tryz.underlying26 u C D .i64 .i64 _ N rfl rfl (by first|rfl|omega) (by rw[E];omega) oM (Nat.le_refl _) ?_;intro w1 r hg;have F:=Lib.hid r;have G:Hid (Below w.heap.size w w1):=(Below.refl _ _).grown hg (Nat.le_refl _) (λq hq=>by cases hq);clear r hg)
 go_loopw [6,27] (λB d wr=>∃i:Nat,i<=n/\d= .int .i64 i/\Hid (Below w.heap.size w wr)/\Hid (wr.ownsRow w.heap.size 4 1 B (cT (l.take i) s).length ((cT (l.take i) s).map vB))) (λ_ d _=>n-(intOf d).toNat)
 case atStart=>exact⟨0,Nat.zero_le _,rfl,G.out,F.out⟩
 case round=>
  obtain⟨i,W,rfl,hB,g⟩:=hrel;by_cases k:i<n
  ·obtain⟨O,rfl,M,m⟩:=(v.out.below hB.out).rd (by rw[<-a.out];omega);have P:=m i (by rw[<-a.out];exact k);have j:Hid (l.getD i 0<2^s):=y.out i;have f:Hid (cT (l.take (i+1)) s=cT (l.take i) s++aH (l.getD i 0) s):=pz l s (by rw[<-a.out];exact k);have H:Hid ((cT (l.take i) s).length<=100000000):=by
    show _<=_;rw[iX,List.length_take];have:min i l.length* s<=8000* 12:=Nat.mul_le_mul oO hs;omega
   generalize l.getD i 0=x at*;have J:x<=1000000000000:=by have z:=j.out;have Q:=kZ hs;omega
   have X:(x:Int)/2^s=0:=by
    have e:(x:Int)/2^s=((x/2^s:Nat):Int):=by simp
    rw[e,Nat.div_eq_of_lt j.out];rfl
   clear m M;go_wp2_with(go_at_call 108;refine(mg w.heap.size (cT (l.take i) s) _ x s _ J oO H.out hB.out.size g.out).mono ?_;rintro e S ⟨u3,rfl,o,p⟩;have K:=Lib.hid o;have L:=Lib.hid p;clear o p)
   exact⟨⟨i+1,by omega,by go_num,hB.out.trans L.out,by rw[f.out];exact K.out⟩,by simp[intOf];omega⟩
  ·obtain rfl:n=i:=oO;have f:Hid (l.take n=l):=by show _=_;rw[a.out,List.take_length]
   go_wp2;go_ret2
   exact RT.mk rfl (by have h:=g.out;rw[f.out]at h;exact SG.bU h) hB.out
def eB (L:Int) (c:Bool):Bool:=decide (1<=L)&&(decide (L<=4)||(decide (L<=32)&&!c))
def ax (L:Nat) (c:Bool):Nat:=if c=true then 11+4* L else 14+4* L
def ao (L:Nat) (c:Bool):Nat:=if c=true then ax L c else ax L c+1+2* ((ax L c/2-1)/15)
def dY (L:Nat) (c:Bool):Nat:=if c=true then(88+16* L)* L else(112+16* L)* L
def aq (L:Nat):Nat:=if L<=2 then 6 else if L<=8 then 8 else if L<=22 then 10 else 12
def aQ (L:Nat) (c:Bool):Nat:=dY L c/aq L
theorem mM {L:Int} {c:Bool} (h:eB L c=true):∃k:Nat,L=(k:Int)/\1<=k/\k<=32/\(c=true->k<=4):=by
 unfold eB at h;simp only[Bool.and_eq_true,Bool.or_eq_true,decide_eq_true_eq,Bool.not_eq_true']at h;refine⟨L.toNat,by omega,by omega,by omega,λe=>?_⟩;rcases h.2 with a|a
 ·omega
 ·rw[e]at a;cases a.2
theorem exB_of {k:Nat} {c:Bool} (b:1<=k) (d:k<=32) (a:c=true->k<=4):eB (k:Int) c=true:=by
 unfold eB;cases c with
 |true=>have:=a rfl;simp;omega
 |false=>simp;omega
theorem fX {L:Nat} {c:Bool} (h:L<=32):11<=ax L c/\ax L c<=142:=by unfold ax;split<;>omega
theorem dF {L:Nat} {c:Bool} (h:L<=32):11<=ao L c/\ao L c<=161:=by
 have:=fX (c:=c) h;unfold ao;split<;>omega
theorem room_le {L:Nat} {c:Bool} (h:L<=32):dY L c<=20000:=by
 unfold dY;split
 ·exact Nat.le_trans (Nat.mul_le_mul (show 88+16* L<=600 by omega) h) oO
 ·exact Nat.le_trans (Nat.mul_le_mul (show 112+16* L<=624 by omega) h) oO
theorem eK (L:Nat):aq L=6\/aq L=8\/aq L=10\/aq L=12:=by unfold aq;(repeat' split)<;>simp
theorem lD {L:Nat} {c:Bool} (h:L<=32):aQ L c<=4000:=by
 unfold aQ;have b:=room_le (c:=c) h;have a:=eK L;rcases a with e|e|e|e<;>rw[e]<;>omega
abbrev cy (L:Int) (c:Bool):Value:= .agg #[.int .i64 L,.bool c]
abbrev bM (L:Int) (c:Bool):Obj:= .cells #[.int .i64 L,.bool c] 60
theorem ep (w:World) (L:Int) (c:Bool):Hid (∀W,af (w.alloc (bM L c)) W->W.cell? ⟨w.heap.size,0,none⟩=some (.int .i64 L)/\W.cell? ⟨w.heap.size,1,none⟩=some (.bool c)):=by
 show∀W,_;intro W b;have h:ai (w.alloc (bM L c)) w.heap.size [.int .i64 L,.bool c]:=ai.new _ _ _ _ rfl;have a:=h.below b;exact⟨a.2 0 oS,a.2 1 oS⟩
theorem gw (L:Int) (c:Bool) (w:World):Calls Tryz.prog 29 #[cy L c] w λe w'=>e= .returned (.bool (eB L c))/\Below w.heap.size w w':=by
 have hB:Hid (Below w.heap.size w (w.alloc (bM L c))):=ar _ _;by_cases d:1<=L
 ·cases c with
  |true=>
   go_enter Tryz.func29,Tryz.ntmps29;go_wp2
   all_goals(go_ret;exact⟨aN (by unfold eB;by_cases a:L<=4<;>by_cases b:L<=32<;>simp[d,a,b]<;>omega),hB.out⟩)
  |false=>
   go_enter Tryz.func29,Tryz.ntmps29;go_wp2
   all_goals(go_ret;exact⟨aN (by unfold eB;by_cases a:L<=4<;>by_cases b:L<=32<;>simp[d,a,b]<;>omega),hB.out⟩)
 ·go_enter Tryz.func29,Tryz.ntmps29;go_wp2
  all_goals(go_ret;exact⟨aN (by unfold eB;simp;omega),hB.out⟩)
theorem qh (L:Nat) (c:Bool) (w:World) (h:L<=32):Calls Tryz.prog 85 #[cy L c] w λe w'=>e= .returned (.int .i64 ((ax L c:Nat):Int))/\Below w.heap.size w w':=by
 have hB:Hid (Below w.heap.size w (w.alloc (bM L c))):=ar _ _;cases c with
 |true=>
  go_enter Tryz.func85,Tryz.ntmps85;go_wp2;go_ret;exact⟨bK (by unfold ax;simp),hB.out⟩
 |false=>
  go_enter Tryz.func85,Tryz.ntmps85;go_wp2;go_ret;exact⟨bK (by unfold ax;simp),hB.out⟩
theorem qg (L:Nat) (c:Bool) (w:World) (h:L<=32):Calls Tryz.prog 36 #[cy L c] w λe w'=>e= .returned (.int .i64 ((ao L c:Nat):Int))/\Below w.heap.size w w':=by
 have d:=ep w L c;have k:=Lib.hid (fX (c:=c) h);have f:Hid (ao L c=if c=true then ax L c else ax L c+1+2* ((ax L c/2-1)/15)):=rfl;have g:Hid (∀W,Calls Tryz.prog 85 #[cy L c] W λe w'=>e= .returned (.int .i64 ((ax L c:Nat):Int))/\Below W.heap.size W w'):=λW=>qh L c W h;generalize ax L c=B at*;obtain⟨l,m⟩:=k.out;cases c with
 |true=>
  go_enter Tryz.func36,Tryz.ntmps36;go_wp2_with(go_at_call 85;refine(g.out _).mono ?_;rintro e w1 ⟨rfl,a⟩;have b:=Lib.hid a;clear a;obtain⟨i,j⟩:=d.out _ b.out)
  go_ret;exact⟨bK (by rw[f.out];simp),cN b.out⟩
 |false=>
  go_enter Tryz.func36,Tryz.ntmps36;go_wp2_with(go_at_call 85;refine(g.out _).mono ?_;rintro e w1 ⟨rfl,a⟩;have b:=Lib.hid a;clear a;obtain⟨i,j⟩:=d.out _ b.out)
  go_ret;exact⟨bK (by rw[f.out];simp;omega),cN b.out⟩
theorem tg (L:Nat) (c:Bool) (w:World) (h:L<=32):Calls Tryz.prog 89 #[cy L c] w λe w'=>e= .returned (.int .i64 ((dY L c:Nat):Int))/\Below w.heap.size w w':=by
 have hB:Hid (Below w.heap.size w (w.alloc (bM L c))):=ar _ _;have a:=Lib.hid (room_le (c:=c) h);have b:Hid (dY L c=if c=true then(88+16* L)* L else(112+16* L)* L):=rfl;generalize dY L c=R at*;cases c with
 |true=>
  have d:(88+16* (L:Int))* (L:Int)=(R:Int):=by rw[b.out];simp
  have f:=a.out;go_enter Tryz.func89,Tryz.ntmps89;go_wp2;go_ret;exact⟨rfl,hB.out⟩
 |false=>
  have d:(112+16* (L:Int))* (L:Int)=(R:Int):=by rw[b.out];simp
  have f:=a.out;go_enter Tryz.func89,Tryz.ntmps89;go_wp2;go_ret;exact⟨rfl,hB.out⟩
theorem lB (L:Nat) (c:Bool) (w:World) (h:L<=32):Calls Tryz.prog 33 #[cy L c] w λe w'=>e= .returned (.int .i64 ((aq L:Nat):Int))/\Below w.heap.size w w':=by
 have hB:Hid (Below w.heap.size w (w.alloc (bM L c))):=ar _ _;go_enter Tryz.func33,Tryz.ntmps33;go_wp2
 all_goals(go_ret;exact⟨bK (by unfold aq;(repeat' split)<;>first|rfl|omega),hB.out⟩)
theorem qR (L:Nat) (c:Bool) (w:World) (h:L<=32):Calls Tryz.prog 44 #[cy L c] w λe w'=>e= .returned (.int .i64 ((aQ L c:Nat):Int))/\Below w.heap.size w w':=by
 have a:=ep w L c;have k:Hid (∀W,Calls Tryz.prog 89 #[cy L c] W λe w'=>e= .returned (.int .i64 ((dY L c:Nat):Int))/\Below W.heap.size W w'):=λW=>tg L c W h;have l:Hid (∀W,Calls Tryz.prog 33 #[cy L c] W λe w'=>e= .returned (.int .i64 ((aq L:Nat):Int))/\Below W.heap.size W w'):=λW=>lB L c W h;have m:=Lib.hid (room_le (c:=c) h);have n:=Lib.hid (eK L);have i:Hid (aQ L c=dY L c/aq L):=rfl;obtain⟨o,p⟩:=a.out _ (Below.refl _ _);generalize dY L c=R at*;generalize aq L=s at*;have r:s≠0:=by rcases n.out with e|e|e|e<;>omega
 have t:(0:Int)<(s:Int):=oO;have u:¬((s:Int)=0):=oO;have v:0<s:=oO;have q:=m.out;go_enter Tryz.func44,Tryz.ntmps44;go_wp2;refine yO (af (w.alloc (bM L c))) [1,3,0,2,4,0,5,6] (ak (Below.refl _ _)) ?_
 repeat refine zO a.out ?_
 refine zZ ?_;refine(k.out _).mono ?_;rintro e w1 ⟨rfl,b⟩;have d:Hid (af (w.alloc (bM L c)) w1):=ab (ak (Below.refl _ _)) b;clear b;refine⟨_,rfl,d.out,jO ?_⟩;refine zZ ?_;refine(l.out _).mono ?_;rintro e w2 ⟨rfl,f⟩;have g:Hid (af (w.alloc (bM L c)) w2):=ab d.out f;clear f;refine⟨_,rfl,g.out,jO ?_⟩;have j:Hid ((R:Int)/(s:Int)=((aQ L c:Nat):Int)):=by show _=_;rw[i.out];simp
 have hq:=j.out;have x:IntKind.i64.wrap ((aQ L c:Nat):Int)=((aQ L c:Nat):Int):=aJ _ oO (by have:=lD (c:=c) h;omega)
 repeat refine zO a.out ?_
 refine ag ?_;go_wp2;go_ret;exact⟨rfl,cN g.out⟩
def LI (w:World) (a b:Int) (e:Ending) (w':World):Prop:=e= .returned (.tuple #[.int .i64 a,.int .i64 b])/\Below w.heap.size w w'
def Ln (w:World) (a b c:Int) (e:Ending) (w':World):Prop:=e= .returned (.tuple #[.int .i64 a,.int .i64 b,.int .i64 c])/\Below w.heap.size w w'
def rV (L:Int) (c:Bool):Int×Int:=if eB L c=true then(((ao L.toNat c:Nat):Int),0)else(0,14)
def mj (L:Int) (c:Bool):Int×Int×Int:=if eB L c=true then(((aq L.toNat:Nat):Int),((aQ L.toNat c:Nat):Int),0)else(0,0,14)
theorem sY (L:Int) (c:Bool) (w:World):Calls Tryz.prog 13 #[.int .i64 L,.bool c] w (LI w (rV L c).1 (rV L c).2):=by
 have i:=ep w L c;have f:Hid (∀W,Calls Tryz.prog 29 #[cy L c] W λe w'=>e= .returned (.bool (eB L c))/\Below W.heap.size W w'):=λW=>gw L c W;cases a:eB L c with
 |false=>
  have g:Hid (rV L c=(0,14)):=by show _=_;unfold rV;rw[a];rfl
  rw[a]at f;clear a;go_enter Tryz.func13,Tryz.ntmps13;go_wp2_with(go_at_call 29;refine(f.out _).mono ?_;rintro e w1 ⟨rfl,b⟩;have d:=Lib.hid b;clear b;obtain⟨l,m⟩:=i.out _ d.out)
  go_ret2
  rw[g.out];exact⟨rfl,cN d.out⟩
 |true=>
  obtain⟨k,rfl,r,n,o⟩:=mM a;have g:Hid (rV k c=(((ao k c:Nat):Int),0)):=by show _=_;unfold rV;rw[a];simp
  have p:Hid (∀W,Calls Tryz.prog 36 #[cy k c] W λe w'=>e= .returned (.int .i64 ((ao k c:Nat):Int))/\Below W.heap.size W w'):=λW=>qg k c W n;rw[a]at f;clear a o;go_enter Tryz.func13,Tryz.ntmps13
  go_wp2_with(first
   |(go_at_call 29;refine(f.out _).mono ?_;rintro e w1 ⟨rfl,b⟩;have d:=Lib.hid b;clear b;obtain⟨l,m⟩:=i.out _ d.out)
   |(go_at_call 36;refine(p.out _).mono ?_;rintro e w2 ⟨rfl,j⟩;have q:=Lib.hid (ab d.out j);clear j))
  go_ret2
  rw[g.out];exact⟨rfl,cN q.out⟩
theorem qU (L:Int) (c:Bool) (w:World):Calls Tryz.prog 16 #[.int .i64 L,.bool c] w (Ln w (mj L c).1 (mj L c).2.1 (mj L c).2.2):=by
 have f:=ep w L c;have g:Hid (∀W,Calls Tryz.prog 29 #[cy L c] W λe w'=>e= .returned (.bool (eB L c))/\Below W.heap.size W w'):=λW=>gw L c W;cases a:eB L c with
 |false=>
  have i:Hid (mj L c=(0,0,14)):=by show _=_;unfold mj;rw[a];rfl
  rw[a]at g;clear a;go_enter Tryz.func16,Tryz.ntmps16;go_wp2_with(go_at_call 29;refine(g.out _).mono ?_;rintro e w1 ⟨rfl,d⟩;have b:=Lib.hid d;clear d;obtain⟨j,l⟩:=f.out _ b.out)
  go_ret3
  rw[i.out];exact⟨rfl,cN b.out⟩
 |true=>
  obtain⟨k,rfl,v,m,r⟩:=mM a;have i:Hid (mj k c=(((aq k:Nat):Int),((aQ k c:Nat):Int),0)):=by show _=_;unfold mj;rw[a];simp
  have t:Hid (∀W,Calls Tryz.prog 33 #[cy k c] W λe w'=>e= .returned (.int .i64 ((aq k:Nat):Int))/\Below W.heap.size W w'):=λW=>lB k c W m;have u:Hid (∀W,Calls Tryz.prog 44 #[cy k c] W λe w'=>e= .returned (.int .i64 ((aQ k c:Nat):Int))/\Below W.heap.size W w'):=λW=>qR k c W m;rw[a]at g;clear a r;go_enter Tryz.func16,Tryz.ntmps16;go_wp2_with(go_at_call 29;refine(g.out _).mono ?_;rintro e w1 ⟨rfl,d⟩;have b:=Lib.hid d;clear d;obtain⟨j,l⟩:=f.out _ b.out)
  clear j l;refine yO (af (w.alloc (bM k c))) [1,3,0,2,4,0,5,6,7] (ak b.out) ?_
  repeat refine zO f.out ?_
  refine zZ ?_;refine(t.out _).mono ?_;rintro e w2 ⟨rfl,n⟩;have o:Hid (af (w.alloc (bM k c)) w2):=ab (ak b.out) n;clear n;refine⟨_,rfl,o.out,jO ?_⟩;refine zZ ?_;refine(u.out _).mono ?_;rintro e s ⟨rfl,p⟩;have q:Hid (af (w.alloc (bM k c)) s):=ab o.out p;clear p;refine⟨_,rfl,q.out,jO ?_⟩
  repeat refine zO f.out ?_
  refine ag ?_;go_wp2;go_ret3
  rw[i.out];exact⟨rfl,cN q.out⟩
theorem lQ (L:Int) (c:Bool) (w:World):Calls Tryz.prog 47 #[.int .i64 L,.bool c] w λe w'=>e= .returned (.bool (eB L c))/\w'=w:=by
 by_cases b:1<=L
 ·by_cases d:L<=4
  ·go_enter Tryz.func47,Tryz.ntmps47;go_wp2
   all_goals(go_ret;exact⟨aN (by unfold eB;cases c<;>by_cases a:L<=32<;>simp[b,d,a]<;>omega),rfl⟩)
  ·by_cases a:L<=32
   ·go_enter Tryz.func47,Tryz.ntmps47;go_wp2
    all_goals(go_ret;exact⟨aN (by unfold eB;cases c<;>simp[b,d,a]<;>omega),rfl⟩)
   ·go_enter Tryz.func47,Tryz.ntmps47;go_wp2
    all_goals(go_ret;exact⟨aN (by unfold eB;cases c<;>simp[b,d,a]<;>omega),rfl⟩)
 ·go_enter Tryz.func47,Tryz.ntmps47;go_wp2
  all_goals(go_ret;exact⟨aN (by unfold eB;simp;omega),rfl⟩)
theorem q5 (L:Nat) (c:Bool) (w:World) (h:L<=32):Calls Tryz.prog 98 #[.int .i64 L,.bool c] w λe w'=>e= .returned (.int .i64 ((ax L c:Nat):Int))/\w'=w:=by
 cases c with
 |true=>
  go_enter Tryz.func98,Tryz.ntmps98;go_wp2;go_ret;exact⟨bK (by unfold ax;simp),rfl⟩
 |false=>
  go_enter Tryz.func98,Tryz.ntmps98;go_wp2;go_ret;exact⟨bK (by unfold ax;simp),rfl⟩
theorem nV (L:Nat) (c:Bool) (w:World) (h:L<=32):Calls Tryz.prog 48 #[.int .i64 L,.bool c] w λe w'=>e= .returned (.int .i64 ((ao L c:Nat):Int))/\w'=w:=by
 have f:=Lib.hid (fX (c:=c) h);have b:Hid (ao L c=if c=true then ax L c else ax L c+1+2* ((ax L c/2-1)/15)):=rfl;have d:Hid (∀W,Calls Tryz.prog 98 #[.int .i64 L,.bool c] W λe w'=>e= .returned (.int .i64 ((ax L c:Nat):Int))/\w'=W):=λW=>q5 L c W h;generalize ax L c=B at*;obtain⟨g,i⟩:=f.out;cases c with
 |true=>
  go_enter Tryz.func48,Tryz.ntmps48;go_wp2_with(go_at_call 98;refine(d.out _).mono ?_;rintro e w1 ⟨rfl,a⟩;rw[a];clear a)
  go_ret;exact⟨bK (by rw[b.out];simp),rfl⟩
 |false=>
  go_enter Tryz.func48,Tryz.ntmps48;go_wp2_with(go_at_call 98;refine(d.out _).mono ?_;rintro e w1 ⟨rfl,a⟩;rw[a];clear a)
  go_ret;exact⟨bK (by rw[b.out];simp;omega),rfl⟩
theorem E6 (L:Nat) (w:World) (h:L<=32):Calls Tryz.prog 49 #[.int .i64 L] w λe w'=>e= .returned (.int .i64 ((aq L:Nat):Int))/\w'=w:=by
 go_enter Tryz.func49,Tryz.ntmps49;go_wp2
 all_goals(go_ret;exact⟨bK (by unfold aq;(repeat' split)<;>first|rfl|omega),rfl⟩)
theorem uG (L:Nat) (c:Bool) (w:World) (h:L<=32):Calls Tryz.prog 50 #[.int .i64 L,.bool c] w λe w'=>e= .returned (.int .i64 ((dY L c:Nat):Int))/\w'=w:=by
 have a:=Lib.hid (room_le (c:=c) h);have b:Hid (dY L c=if c=true then(88+16* L)* L else(112+16* L)* L):=rfl;generalize dY L c=R at*;cases c with
 |true=>
  have d:(88+16* (L:Int))* (L:Int)=(R:Int):=by rw[b.out];simp
  have f:=a.out;go_enter Tryz.func50,Tryz.ntmps50;go_wp2;go_ret;exact⟨rfl,rfl⟩
 |false=>
  have d:(112+16* (L:Int))* (L:Int)=(R:Int):=by rw[b.out];simp
  have f:=a.out;go_enter Tryz.func50,Tryz.ntmps50;go_wp2;go_ret;exact⟨rfl,rfl⟩
theorem qB (L:Int) (c:Bool) (w:World):Calls Tryz.prog 18 #[.int .i64 L,.bool c] w (Ln w (mj L c).1 (mj L c).2.1 (mj L c).2.2):=by
 have f:Hid (∀W,Calls Tryz.prog 47 #[.int .i64 L,.bool c] W λe w'=>e= .returned (.bool (eB L c))/\w'=W):=λW=>lQ L c W;cases b:eB L c with
 |false=>
  have g:Hid (mj L c=(0,0,14)):=by show _=_;unfold mj;rw[b];rfl
  rw[b]at f;clear b;go_enter Tryz.func18,Tryz.ntmps18;go_wp2_with(go_at_call 47;refine(f.out _).mono ?_;rintro e w1 ⟨rfl,a⟩;rw[a];clear a)
  go_ret3
  rw[g.out];exact⟨rfl,Below.refl _ _⟩
 |true=>
  obtain⟨k,rfl,q,d,j⟩:=mM b;have g:Hid (mj k c=(((aq k:Nat):Int),((aQ k c:Nat):Int),0)):=by show _=_;unfold mj;rw[b];simp
  have m:Hid (∀W,Calls Tryz.prog 49 #[.int .i64 k] W λe w'=>e= .returned (.int .i64 ((aq k:Nat):Int))/\w'=W):=λW=>E6 k W d;have n:Hid (∀W,Calls Tryz.prog 50 #[.int .i64 k,.bool c] W λe w'=>e= .returned (.int .i64 ((dY k c:Nat):Int))/\w'=W):=λW=>uG k c W d;have o:=Lib.hid (room_le (c:=c) d);have p:=Lib.hid (eK k);have l:Hid (aQ k c=dY k c/aq k):=rfl;generalize dY k c=R at*;generalize aq k=s at*;have t:s≠0:=by rcases p.out with e|e|e|e<;>omega
  have u:(0:Int)<(s:Int):=oO;have v:¬((s:Int)=0):=oO;have x:0<s:=oO;have r:=o.out;have hq:(R:Int)/(s:Int)=((aQ k c:Nat):Int):=by rw[l.out];simp
  have y:IntKind.i64.wrap ((aQ k c:Nat):Int)=((aQ k c:Nat):Int):=aJ _ oO (by have:=lD (c:=c) d;omega);rw[b]at f;clear b j;have i:Hid (∀W,af w W->True):=λ_ _=>trivial;go_enter Tryz.func18,Tryz.ntmps18
  go_wp2_with(first
   |(go_at_call 47;refine(f.out _).mono ?_;rintro e w1 ⟨rfl,a⟩;rw[a];clear a)
   |(go_at_call 49;refine(m.out _).mono ?_;rintro e w1 ⟨rfl,a⟩;rw[a];clear a))
  refine yO (af w) [1,2,3,5,0,4,0,6,7,8,9] (ak (Below.refl _ _)) ?_
  repeat refine zO i.out ?_
  refine zZ ?_;refine(n.out _).mono ?_;rintro e w2 ⟨rfl,rfl⟩;refine⟨_,rfl,(ak (Below.refl _ _)),jO ?_⟩
  repeat refine zO i.out ?_
  refine ag ?_;go_wp2;go_ret3
  rw[g.out];exact⟨rfl,ak (Below.refl _ _)⟩
def kt (w:Nat):Nat:=if w=6 then 67 else if w=8 then 301 else if w=10 then 1033 else if w=12 then 4201 else 19
def kW (w:Nat):Prop:=w=4\/w=6\/w=8\/w=10\/w=12
theorem FI {w:Nat} (h:kW w):VF 2 (2^w) (kt w):=by
 rcases h with rfl|rfl|rfl|rfl|rfl
 ·exact .inr ⟨4,by omega,by omega,by kernel_rfl,rfl,rfl,by kernel_rfl⟩
 ·exact .inr ⟨6,by omega,by omega,by kernel_rfl,rfl,rfl,by kernel_rfl⟩
 ·exact .inr ⟨8,by omega,by omega,by kernel_rfl,rfl,rfl,by kernel_rfl⟩
 ·exact .inr ⟨10,by omega,by omega,by kernel_rfl,rfl,rfl,by kernel_rfl⟩
 ·exact .inr ⟨12,by omega,by omega,by kernel_rfl,rfl,rfl,by kernel_rfl⟩
theorem D9 {w par:Nat} (h:kW w) (a:1<=par) (b:par<=2^w-2):eo 2 (2^w) (kt w) par 1:=⟨FI h,a,b,by rcases h with rfl|rfl|rfl|rfl|rfl<;>decide⟩
theorem mW (L:Nat):kW (aq L):=by rcases eK L with h|h|h|h<;>rw[h]<;>simp[kW]
theorem oN {w:Nat} (h:kW w):gl (w:Int) (kt w:Int)=dP 2 ((2^w:Nat):Int) (kt w:Int) 0:=by
 have b:=jg (FI h);have a:(1:Int)<=(w:Int)/\(w:Int)<=12:=by rcases h with rfl|rfl|rfl|rfl|rfl<;>omega
 unfold gl qn;have c:fu (kt w:Int) (w:Int)=true:=by rw[<-CO _ _ a.1 a.2,Int.toNat_natCast];exact b
 rw[Int.toNat_natCast,if_pos (by simpa using⟨a,c⟩)]
theorem wj {L:Nat} {c:Bool} (a:1<=L) (h:L<=32) (hc:c=true->L<=4):aQ L c<=2^aq L-1/\17<=aQ L c:=by
 cases c with
 |true=>
  have b:=hc rfl;obtain rfl|rfl|rfl|rfl:L=1\/L=2\/L=3\/L=4:=oO
  all_goals decide
 |false=>
  have:∀k,k<33->1<=k->aQ k false<=2^aq k-1/\17<=aQ k false:=by decide
  exact this L oO a
theorem bn {n i:Nat} {w W:World} {v:Value} (h:Below n w W):Below n w (W.setCell ⟨n,i,none⟩ v):=h.setCell (Nat.le_refl _) _
theorem Ib (w:World):Calls Tryz.prog 110 #[.int .i64 4,.int .i64 19] w λe w'=>e= .returned (.tuple #[.agg #[.int .i64 2,.int .i64 16,.int .i64 19],.int .i64 0])/\Below w.heap.size w w':=by
 have h:=kE 4 19 w oO;have e:gl 4 19=dP 2 16 19 0:=oN (w:=4) (by simp[kW]);rw[e]at h;exact h
theorem Fu (w:World):Calls Tryz.prog 125 #[.int .i64 4,.int .i64 19] w λe w'=>e= .returned (.tuple #[.agg #[.int .i64 2,.int .i64 16,.int .i64 19],.int .i64 0])/\Below w.heap.size w w':=by
 have h:=jK 4 19 w oO;have e:gl 4 19=dP 2 16 19 0:=oN (w:=4) (by simp[kW]);rw[e]at h;exact h
theorem wi (par:Nat) (w:World) (h:eo 2 16 19 par 1):Calls Tryz.prog 61 #[.int .i64 4,.int .i64 par] w λe w'=>e= .returned (.tuple #[cQ 2 16 19 par 1,.int .i64 0])/\Below w.heap.size w w':=by
 have i:Hid (∀W,Calls Tryz.prog 111 #[.agg #[.int .i64 2,.int .i64 16,.int .i64 19],.int .i64 par,.int .i64 1] W λe w'=>e= .returned (.tuple #[.agg #[.int .i64 2,.int .i64 16,.int .i64 19,.int .i64 par,.int .i64 1],.int .i64 0])/\Below W.heap.size W w'):=λW=>nA 2 16 19 par 1 W h;have j:Hid (∀W,Calls Tryz.prog 110 #[.int .i64 4,.int .i64 19] W λe w'=>e= .returned (.tuple #[.agg #[.int .i64 2,.int .i64 16,.int .i64 19],.int .i64 0])/\Below W.heap.size W w'):=λW=>Ib W;obtain⟨b,c⟩:∃b,b=w.alloc (.cells #[.int .i64 0,.int .i64 0,.int .i64 0,.int .i64 0,.int .i64 0] 91):=⟨_,rfl⟩;have s:Hid (Below w.heap.size w b):=by show Below _ _ _;rw[c];exact ar _ _
 have t:Hid (aa b w.heap.size #[.int .i64 0,.int .i64 0,.int .i64 0,.int .i64 0,.int .i64 0] 91):=by show aa _ _ _ _;rw[c];exact aa.new _ _ _ _ oS
 clear h;go_enter Tryz.func61,Tryz.ntmps61
 go_wp2_with(first
  |(go_at_call 110;refine(j.out _).mono ?_;rintro e w1 ⟨rfl,d⟩;rw[<-c]at d;have u:=Lib.hid d;clear d)
  |(go_at_call 111;refine(i.out _).mono ?_;rintro e w2 ⟨rfl,f⟩;have g:=Lib.hid (ab (ae u.out _) f);clear f;have a:=Lib.hid (t.out.below g.out);have c0:w2.cell? ⟨w.heap.size,0,none⟩=some (.int .i64 0):=a.out.cell 0 _ rfl;have c1:w2.cell? ⟨w.heap.size,1,none⟩=some (.int .i64 0):=a.out.cell 1 _ rfl;have k:w2.cell? ⟨w.heap.size,2,none⟩=some (.int .i64 0):=a.out.cell 2 _ rfl;have l:w2.cell? ⟨w.heap.size,3,none⟩=some (.int .i64 0):=a.out.cell 3 _ rfl;have m:w2.cell? ⟨w.heap.size,4,none⟩=some (.int .i64 0):=a.out.cell 4 _ rfl;have n:w2.frozen? ⟨w.heap.size,0,none⟩=false:=frozen_of_row _ _ _ _ _ a.out;have o:w2.frozen? ⟨w.heap.size,1,none⟩=false:=frozen_of_row _ _ _ _ _ a.out;have p:w2.frozen? ⟨w.heap.size,2,none⟩=false:=frozen_of_row _ _ _ _ _ a.out;have q:w2.frozen? ⟨w.heap.size,3,none⟩=false:=frozen_of_row _ _ _ _ _ a.out;have r:w2.frozen? ⟨w.heap.size,4,none⟩=false:=frozen_of_row _ _ _ _ _ a.out))
 have x:Hid (Below w.heap.size w w2):=ab s.out g.out;refine bodyPost_ret (v:= .tuple #[cQ 2 16 19 par 1,.int .i64 0]) (by simp[results,Tryz.results61,go_sem,c0,c1,k,l,m,n,o,p,q,r]) rfl ⟨rfl,?_⟩;exact bn (bn (bn (bn (bn x.out))))
theorem tT (par:Nat) (w:World):Calls Tryz.prog 69 #[.int .i64 4,.int .i64 par] w λe w'=>e= .returned (cQ 2 16 19 par 1)/\Below w.heap.size w w':=by
 have g:Hid (∀W,Calls Tryz.prog 125 #[.int .i64 4,.int .i64 19] W λe w'=>e= .returned (.tuple #[.agg #[.int .i64 2,.int .i64 16,.int .i64 19],.int .i64 0])/\Below W.heap.size W w'):=λW=>Fu W;obtain⟨b,c⟩:∃b,b=w.alloc (.cells #[.int .i64 0,.int .i64 0,.int .i64 0,.int .i64 0,.int .i64 0] 91):=⟨_,rfl⟩;have q:Hid (Below w.heap.size w b):=by show Below _ _ _;rw[c];exact ar _ _
 have r:Hid (aa b w.heap.size #[.int .i64 0,.int .i64 0,.int .i64 0,.int .i64 0,.int .i64 0] 91):=by show aa _ _ _ _;rw[c];exact aa.new _ _ _ _ oS
 go_enter Tryz.func69,Tryz.ntmps69;go_wp2_with(go_at_call 125;refine(g.out _).mono ?_;rintro e w1 ⟨rfl,d⟩;rw[<-c]at d;have f:=Lib.hid d;clear d;have a:=Lib.hid (r.out.below f.out);have c0:w1.cell? ⟨w.heap.size,0,none⟩=some (.int .i64 0):=a.out.cell 0 _ rfl;have c1:w1.cell? ⟨w.heap.size,1,none⟩=some (.int .i64 0):=a.out.cell 1 _ rfl;have i:w1.cell? ⟨w.heap.size,2,none⟩=some (.int .i64 0):=a.out.cell 2 _ rfl;have j:w1.cell? ⟨w.heap.size,3,none⟩=some (.int .i64 0):=a.out.cell 3 _ rfl;have k:w1.cell? ⟨w.heap.size,4,none⟩=some (.int .i64 0):=a.out.cell 4 _ rfl;have l:w1.frozen? ⟨w.heap.size,0,none⟩=false:=frozen_of_row _ _ _ _ _ a.out;have m:w1.frozen? ⟨w.heap.size,1,none⟩=false:=frozen_of_row _ _ _ _ _ a.out;have n:w1.frozen? ⟨w.heap.size,2,none⟩=false:=frozen_of_row _ _ _ _ _ a.out;have o:w1.frozen? ⟨w.heap.size,3,none⟩=false:=frozen_of_row _ _ _ _ _ a.out;have p:w1.frozen? ⟨w.heap.size,4,none⟩=false:=frozen_of_row _ _ _ _ _ a.out;have b0:w.heap.size<w1.heap.size:=aw a.out)
 have s:Hid (Below w.heap.size w w1):=ab q.out f.out;refine bodyPost_ret (v:=cQ 2 16 19 par 1) (by simp[results,Tryz.results69,go_sem,c0,c1,i,j,k,l,m,n,o,p,b0]) rfl ⟨rfl,?_⟩;exact ae (bn (bn (bn (bn (bn s.out))))) _
theorem IS (w:World):Calls Tryz.prog 110 #[.int .i64 6,.int .i64 67] w λe w'=>e= .returned (.tuple #[.agg #[.int .i64 2,.int .i64 64,.int .i64 67],.int .i64 0])/\Below w.heap.size w w':=by
 have h:=kE 6 67 w oO;have e:gl 6 67=dP 2 64 67 0:=oN (w:=6) (by simp[kW]);rw[e]at h;exact h
theorem Fq (w:World):Calls Tryz.prog 125 #[.int .i64 6,.int .i64 67] w λe w'=>e= .returned (.tuple #[.agg #[.int .i64 2,.int .i64 64,.int .i64 67],.int .i64 0])/\Below w.heap.size w w':=by
 have h:=jK 6 67 w oO;have e:gl 6 67=dP 2 64 67 0:=oN (w:=6) (by simp[kW]);rw[e]at h;exact h
theorem Fi (par:Nat) (w:World) (h:eo 2 64 67 par 1):Calls Tryz.prog 61 #[.int .i64 6,.int .i64 par] w λe w'=>e= .returned (.tuple #[cQ 2 64 67 par 1,.int .i64 0])/\Below w.heap.size w w':=by
 have i:Hid (∀W,Calls Tryz.prog 111 #[.agg #[.int .i64 2,.int .i64 64,.int .i64 67],.int .i64 par,.int .i64 1] W λe w'=>e= .returned (.tuple #[.agg #[.int .i64 2,.int .i64 64,.int .i64 67,.int .i64 par,.int .i64 1],.int .i64 0])/\Below W.heap.size W w'):=λW=>nA 2 64 67 par 1 W h;have j:Hid (∀W,Calls Tryz.prog 110 #[.int .i64 6,.int .i64 67] W λe w'=>e= .returned (.tuple #[.agg #[.int .i64 2,.int .i64 64,.int .i64 67],.int .i64 0])/\Below W.heap.size W w'):=λW=>IS W;obtain⟨b,c⟩:∃b,b=w.alloc (.cells #[.int .i64 0,.int .i64 0,.int .i64 0,.int .i64 0,.int .i64 0] 91):=⟨_,rfl⟩;have s:Hid (Below w.heap.size w b):=by show Below _ _ _;rw[c];exact ar _ _
 have t:Hid (aa b w.heap.size #[.int .i64 0,.int .i64 0,.int .i64 0,.int .i64 0,.int .i64 0] 91):=by show aa _ _ _ _;rw[c];exact aa.new _ _ _ _ oS
 clear h;go_enter Tryz.func61,Tryz.ntmps61
 go_wp2_with(first
  |(go_at_call 110;refine(j.out _).mono ?_;rintro e w1 ⟨rfl,d⟩;rw[<-c]at d;have u:=Lib.hid d;clear d)
  |(go_at_call 111;refine(i.out _).mono ?_;rintro e w2 ⟨rfl,f⟩;have g:=Lib.hid (ab (ae u.out _) f);clear f;have a:=Lib.hid (t.out.below g.out);have c0:w2.cell? ⟨w.heap.size,0,none⟩=some (.int .i64 0):=a.out.cell 0 _ rfl;have c1:w2.cell? ⟨w.heap.size,1,none⟩=some (.int .i64 0):=a.out.cell 1 _ rfl;have k:w2.cell? ⟨w.heap.size,2,none⟩=some (.int .i64 0):=a.out.cell 2 _ rfl;have l:w2.cell? ⟨w.heap.size,3,none⟩=some (.int .i64 0):=a.out.cell 3 _ rfl;have m:w2.cell? ⟨w.heap.size,4,none⟩=some (.int .i64 0):=a.out.cell 4 _ rfl;have n:w2.frozen? ⟨w.heap.size,0,none⟩=false:=frozen_of_row _ _ _ _ _ a.out;have o:w2.frozen? ⟨w.heap.size,1,none⟩=false:=frozen_of_row _ _ _ _ _ a.out;have p:w2.frozen? ⟨w.heap.size,2,none⟩=false:=frozen_of_row _ _ _ _ _ a.out;have q:w2.frozen? ⟨w.heap.size,3,none⟩=false:=frozen_of_row _ _ _ _ _ a.out;have r:w2.frozen? ⟨w.heap.size,4,none⟩=false:=frozen_of_row _ _ _ _ _ a.out))
 have x:Hid (Below w.heap.size w w2):=ab s.out g.out;refine bodyPost_ret (v:= .tuple #[cQ 2 64 67 par 1,.int .i64 0]) (by simp[results,Tryz.results61,go_sem,c0,c1,k,l,m,n,o,p,q,r]) rfl ⟨rfl,?_⟩;exact bn (bn (bn (bn (bn x.out))))
theorem Dm (par:Nat) (w:World):Calls Tryz.prog 69 #[.int .i64 6,.int .i64 par] w λe w'=>e= .returned (cQ 2 64 67 par 1)/\Below w.heap.size w w':=by
 have g:Hid (∀W,Calls Tryz.prog 125 #[.int .i64 6,.int .i64 67] W λe w'=>e= .returned (.tuple #[.agg #[.int .i64 2,.int .i64 64,.int .i64 67],.int .i64 0])/\Below W.heap.size W w'):=λW=>Fq W;obtain⟨b,c⟩:∃b,b=w.alloc (.cells #[.int .i64 0,.int .i64 0,.int .i64 0,.int .i64 0,.int .i64 0] 91):=⟨_,rfl⟩;have q:Hid (Below w.heap.size w b):=by show Below _ _ _;rw[c];exact ar _ _
 have r:Hid (aa b w.heap.size #[.int .i64 0,.int .i64 0,.int .i64 0,.int .i64 0,.int .i64 0] 91):=by show aa _ _ _ _;rw[c];exact aa.new _ _ _ _ oS
 go_enter Tryz.func69,Tryz.ntmps69;go_wp2_with(go_at_call 125;refine(g.out _).mono ?_;rintro e w1 ⟨rfl,d⟩;rw[<-c]at d;have f:=Lib.hid d;clear d;have a:=Lib.hid (r.out.below f.out);have c0:w1.cell? ⟨w.heap.size,0,none⟩=some (.int .i64 0):=a.out.cell 0 _ rfl;have c1:w1.cell? ⟨w.heap.size,1,none⟩=some (.int .i64 0):=a.out.cell 1 _ rfl;have i:w1.cell? ⟨w.heap.size,2,none⟩=some (.int .i64 0):=a.out.cell 2 _ rfl;have j:w1.cell? ⟨w.heap.size,3,none⟩=some (.int .i64 0):=a.out.cell 3 _ rfl;have k:w1.cell? ⟨w.heap.size,4,none⟩=some (.int .i64 0):=a.out.cell 4 _ rfl;have l:w1.frozen? ⟨w.heap.size,0,none⟩=false:=frozen_of_row _ _ _ _ _ a.out;have m:w1.frozen? ⟨w.heap.size,1,none⟩=false:=frozen_of_row _ _ _ _ _ a.out;have n:w1.frozen? ⟨w.heap.size,2,none⟩=false:=frozen_of_row _ _ _ _ _ a.out;have o:w1.frozen? ⟨w.heap.size,3,none⟩=false:=frozen_of_row _ _ _ _ _ a.out;have p:w1.frozen? ⟨w.heap.size,4,none⟩=false:=frozen_of_row _ _ _ _ _ a.out;have b0:w.heap.size<w1.heap.size:=aw a.out)
 have s:Hid (Below w.heap.size w w1):=ab q.out f.out;refine bodyPost_ret (v:=cQ 2 64 67 par 1) (by simp[results,Tryz.results69,go_sem,c0,c1,i,j,k,l,m,n,o,p,b0]) rfl ⟨rfl,?_⟩;exact ae (bn (bn (bn (bn (bn s.out))))) _
theorem GH (w:World):Calls Tryz.prog 110 #[.int .i64 8,.int .i64 301] w λe w'=>e= .returned (.tuple #[.agg #[.int .i64 2,.int .i64 256,.int .i64 301],.int .i64 0])/\Below w.heap.size w w':=by
 have h:=kE 8 301 w oO;have e:gl 8 301=dP 2 256 301 0:=oN (w:=8) (by simp[kW]);rw[e]at h;exact h
theorem FD (w:World):Calls Tryz.prog 125 #[.int .i64 8,.int .i64 301] w λe w'=>e= .returned (.tuple #[.agg #[.int .i64 2,.int .i64 256,.int .i64 301],.int .i64 0])/\Below w.heap.size w w':=by
 have h:=jK 8 301 w oO;have e:gl 8 301=dP 2 256 301 0:=oN (w:=8) (by simp[kW]);rw[e]at h;exact h
theorem Fs (par:Nat) (w:World) (h:eo 2 256 301 par 1):Calls Tryz.prog 61 #[.int .i64 8,.int .i64 par] w λe w'=>e= .returned (.tuple #[cQ 2 256 301 par 1,.int .i64 0])/\Below w.heap.size w w':=by
 have i:Hid (∀W,Calls Tryz.prog 111 #[.agg #[.int .i64 2,.int .i64 256,.int .i64 301],.int .i64 par,.int .i64 1] W λe w'=>e= .returned (.tuple #[.agg #[.int .i64 2,.int .i64 256,.int .i64 301,.int .i64 par,.int .i64 1],.int .i64 0])/\Below W.heap.size W w'):=λW=>nA 2 256 301 par 1 W h;have j:Hid (∀W,Calls Tryz.prog 110 #[.int .i64 8,.int .i64 301] W λe w'=>e= .returned (.tuple #[.agg #[.int .i64 2,.int .i64 256,.int .i64 301],.int .i64 0])/\Below W.heap.size W w'):=λW=>GH W;obtain⟨b,c⟩:∃b,b=w.alloc (.cells #[.int .i64 0,.int .i64 0,.int .i64 0,.int .i64 0,.int .i64 0] 91):=⟨_,rfl⟩;have s:Hid (Below w.heap.size w b):=by show Below _ _ _;rw[c];exact ar _ _
 have t:Hid (aa b w.heap.size #[.int .i64 0,.int .i64 0,.int .i64 0,.int .i64 0,.int .i64 0] 91):=by show aa _ _ _ _;rw[c];exact aa.new _ _ _ _ oS
 clear h;go_enter Tryz.func61,Tryz.ntmps61
 go_wp2_with(first
  |(go_at_call 110;refine(j.out _).mono ?_;rintro e w1 ⟨rfl,d⟩;rw[<-c]at d;have u:=Lib.hid d;clear d)
  |(go_at_call 111;refine(i.out _).mono ?_;rintro e w2 ⟨rfl,f⟩;have g:=Lib.hid (ab (ae u.out _) f);clear f;have a:=Lib.hid (t.out.below g.out);have c0:w2.cell? ⟨w.heap.size,0,none⟩=some (.int .i64 0):=a.out.cell 0 _ rfl;have c1:w2.cell? ⟨w.heap.size,1,none⟩=some (.int .i64 0):=a.out.cell 1 _ rfl;have k:w2.cell? ⟨w.heap.size,2,none⟩=some (.int .i64 0):=a.out.cell 2 _ rfl;have l:w2.cell? ⟨w.heap.size,3,none⟩=some (.int .i64 0):=a.out.cell 3 _ rfl;have m:w2.cell? ⟨w.heap.size,4,none⟩=some (.int .i64 0):=a.out.cell 4 _ rfl;have n:w2.frozen? ⟨w.heap.size,0,none⟩=false:=frozen_of_row _ _ _ _ _ a.out;have o:w2.frozen? ⟨w.heap.size,1,none⟩=false:=frozen_of_row _ _ _ _ _ a.out;have p:w2.frozen? ⟨w.heap.size,2,none⟩=false:=frozen_of_row _ _ _ _ _ a.out;have q:w2.frozen? ⟨w.heap.size,3,none⟩=false:=frozen_of_row _ _ _ _ _ a.out;have r:w2.frozen? ⟨w.heap.size,4,none⟩=false:=frozen_of_row _ _ _ _ _ a.out))
 have x:Hid (Below w.heap.size w w2):=ab s.out g.out;refine bodyPost_ret (v:= .tuple #[cQ 2 256 301 par 1,.int .i64 0]) (by simp[results,Tryz.results61,go_sem,c0,c1,k,l,m,n,o,p,q,r]) rfl ⟨rfl,?_⟩;exact bn (bn (bn (bn (bn x.out))))
theorem Dl (par:Nat) (w:World):Calls Tryz.prog 69 #[.int .i64 8,.int .i64 par] w λe w'=>e= .returned (cQ 2 256 301 par 1)/\Below w.heap.size w w':=by
 have g:Hid (∀W,Calls Tryz.prog 125 #[.int .i64 8,.int .i64 301] W λe w'=>e= .returned (.tuple #[.agg #[.int .i64 2,.int .i64 256,.int .i64 301],.int .i64 0])/\Below W.heap.size W w'):=λW=>FD W;obtain⟨b,c⟩:∃b,b=w.alloc (.cells #[.int .i64 0,.int .i64 0,.int .i64 0,.int .i64 0,.int .i64 0] 91):=⟨_,rfl⟩;have q:Hid (Below w.heap.size w b):=by show Below _ _ _;rw[c];exact ar _ _
 have r:Hid (aa b w.heap.size #[.int .i64 0,.int .i64 0,.int .i64 0,.int .i64 0,.int .i64 0] 91):=by show aa _ _ _ _;rw[c];exact aa.new _ _ _ _ oS
 go_enter Tryz.func69,Tryz.ntmps69;go_wp2_with(go_at_call 125;refine(g.out _).mono ?_;rintro e w1 ⟨rfl,d⟩;rw[<-c]at d;have f:=Lib.hid d;clear d;have a:=Lib.hid (r.out.below f.out);have c0:w1.cell? ⟨w.heap.size,0,none⟩=some (.int .i64 0):=a.out.cell 0 _ rfl;have c1:w1.cell? ⟨w.heap.size,1,none⟩=some (.int .i64 0):=a.out.cell 1 _ rfl;have i:w1.cell? ⟨w.heap.size,2,none⟩=some (.int .i64 0):=a.out.cell 2 _ rfl;have j:w1.cell? ⟨w.heap.size,3,none⟩=some (.int .i64 0):=a.out.cell 3 _ rfl;have k:w1.cell? ⟨w.heap.size,4,none⟩=some (.int .i64 0):=a.out.cell 4 _ rfl;have l:w1.frozen? ⟨w.heap.size,0,none⟩=false:=frozen_of_row _ _ _ _ _ a.out;have m:w1.frozen? ⟨w.heap.size,1,none⟩=false:=frozen_of_row _ _ _ _ _ a.out;have n:w1.frozen? ⟨w.heap.size,2,none⟩=false:=frozen_of_row _ _ _ _ _ a.out;have o:w1.frozen? ⟨w.heap.size,3,none⟩=false:=frozen_of_row _ _ _ _ _ a.out;have p:w1.frozen? ⟨w.heap.size,4,none⟩=false:=frozen_of_row _ _ _ _ _ a.out;have b0:w.heap.size<w1.heap.size:=aw a.out)
 have s:Hid (Below w.heap.size w w1):=ab q.out f.out;refine bodyPost_ret (v:=cQ 2 256 301 par 1) (by simp[results,Tryz.results69,go_sem,c0,c1,i,j,k,l,m,n,o,p,b0]) rfl ⟨rfl,?_⟩;exact ae (bn (bn (bn (bn (bn s.out))))) _
theorem Gd (w:World):Calls Tryz.prog 110 #[.int .i64 10,.int .i64 1033] w λe w'=>e= .returned (.tuple #[.agg #[.int .i64 2,.int .i64 1024,.int .i64 1033],.int .i64 0])/\Below w.heap.size w w':=by
 have h:=kE 10 1033 w oO;have e:gl 10 1033=dP 2 1024 1033 0:=oN (w:=10) (by simp[kW]);rw[e]at h;exact h
theorem Df (w:World):Calls Tryz.prog 125 #[.int .i64 10,.int .i64 1033] w λe w'=>e= .returned (.tuple #[.agg #[.int .i64 2,.int .i64 1024,.int .i64 1033],.int .i64 0])/\Below w.heap.size w w':=by
 have h:=jK 10 1033 w oO;have e:gl 10 1033=dP 2 1024 1033 0:=oN (w:=10) (by simp[kW]);rw[e]at h;exact h
theorem DB (par:Nat) (w:World) (h:eo 2 1024 1033 par 1):Calls Tryz.prog 61 #[.int .i64 10,.int .i64 par] w λe w'=>e= .returned (.tuple #[cQ 2 1024 1033 par 1,.int .i64 0])/\Below w.heap.size w w':=by
 have i:Hid (∀W,Calls Tryz.prog 111 #[.agg #[.int .i64 2,.int .i64 1024,.int .i64 1033],.int .i64 par,.int .i64 1] W λe w'=>e= .returned (.tuple #[.agg #[.int .i64 2,.int .i64 1024,.int .i64 1033,.int .i64 par,.int .i64 1],.int .i64 0])/\Below W.heap.size W w'):=λW=>nA 2 1024 1033 par 1 W h;have j:Hid (∀W,Calls Tryz.prog 110 #[.int .i64 10,.int .i64 1033] W λe w'=>e= .returned (.tuple #[.agg #[.int .i64 2,.int .i64 1024,.int .i64 1033],.int .i64 0])/\Below W.heap.size W w'):=λW=>Gd W;obtain⟨b,c⟩:∃b,b=w.alloc (.cells #[.int .i64 0,.int .i64 0,.int .i64 0,.int .i64 0,.int .i64 0] 91):=⟨_,rfl⟩;have s:Hid (Below w.heap.size w b):=by show Below _ _ _;rw[c];exact ar _ _
 have t:Hid (aa b w.heap.size #[.int .i64 0,.int .i64 0,.int .i64 0,.int .i64 0,.int .i64 0] 91):=by show aa _ _ _ _;rw[c];exact aa.new _ _ _ _ oS
 clear h;go_enter Tryz.func61,Tryz.ntmps61
 go_wp2_with(first
  |(go_at_call 110;refine(j.out _).mono ?_;rintro e w1 ⟨rfl,d⟩;rw[<-c]at d;have u:=Lib.hid d;clear d)
  |(go_at_call 111;refine(i.out _).mono ?_;rintro e w2 ⟨rfl,f⟩;have g:=Lib.hid (ab (ae u.out _) f);clear f;have a:=Lib.hid (t.out.below g.out);have c0:w2.cell? ⟨w.heap.size,0,none⟩=some (.int .i64 0):=a.out.cell 0 _ rfl;have c1:w2.cell? ⟨w.heap.size,1,none⟩=some (.int .i64 0):=a.out.cell 1 _ rfl;have k:w2.cell? ⟨w.heap.size,2,none⟩=some (.int .i64 0):=a.out.cell 2 _ rfl;have l:w2.cell? ⟨w.heap.size,3,none⟩=some (.int .i64 0):=a.out.cell 3 _ rfl;have m:w2.cell? ⟨w.heap.size,4,none⟩=some (.int .i64 0):=a.out.cell 4 _ rfl;have n:w2.frozen? ⟨w.heap.size,0,none⟩=false:=frozen_of_row _ _ _ _ _ a.out;have o:w2.frozen? ⟨w.heap.size,1,none⟩=false:=frozen_of_row _ _ _ _ _ a.out;have p:w2.frozen? ⟨w.heap.size,2,none⟩=false:=frozen_of_row _ _ _ _ _ a.out;have q:w2.frozen? ⟨w.heap.size,3,none⟩=false:=frozen_of_row _ _ _ _ _ a.out;have r:w2.frozen? ⟨w.heap.size,4,none⟩=false:=frozen_of_row _ _ _ _ _ a.out))
 have x:Hid (Below w.heap.size w w2):=ab s.out g.out;refine bodyPost_ret (v:= .tuple #[cQ 2 1024 1033 par 1,.int .i64 0]) (by simp[results,Tryz.results61,go_sem,c0,c1,k,l,m,n,o,p,q,r]) rfl ⟨rfl,?_⟩;exact bn (bn (bn (bn (bn x.out))))
theorem Bw (par:Nat) (w:World):Calls Tryz.prog 69 #[.int .i64 10,.int .i64 par] w λe w'=>e= .returned (cQ 2 1024 1033 par 1)/\Below w.heap.size w w':=by
 have g:Hid (∀W,Calls Tryz.prog 125 #[.int .i64 10,.int .i64 1033] W λe w'=>e= .returned (.tuple #[.agg #[.int .i64 2,.int .i64 1024,.int .i64 1033],.int .i64 0])/\Below W.heap.size W w'):=λW=>Df W;obtain⟨b,c⟩:∃b,b=w.alloc (.cells #[.int .i64 0,.int .i64 0,.int .i64 0,.int .i64 0,.int .i64 0] 91):=⟨_,rfl⟩;have q:Hid (Below w.heap.size w b):=by show Below _ _ _;rw[c];exact ar _ _
 have r:Hid (aa b w.heap.size #[.int .i64 0,.int .i64 0,.int .i64 0,.int .i64 0,.int .i64 0] 91):=by show aa _ _ _ _;rw[c];exact aa.new _ _ _ _ oS
 go_enter Tryz.func69,Tryz.ntmps69;go_wp2_with(go_at_call 125;refine(g.out _).mono ?_;rintro e w1 ⟨rfl,d⟩;rw[<-c]at d;have f:=Lib.hid d;clear d;have a:=Lib.hid (r.out.below f.out);have c0:w1.cell? ⟨w.heap.size,0,none⟩=some (.int .i64 0):=a.out.cell 0 _ rfl;have c1:w1.cell? ⟨w.heap.size,1,none⟩=some (.int .i64 0):=a.out.cell 1 _ rfl;have i:w1.cell? ⟨w.heap.size,2,none⟩=some (.int .i64 0):=a.out.cell 2 _ rfl;have j:w1.cell? ⟨w.heap.size,3,none⟩=some (.int .i64 0):=a.out.cell 3 _ rfl;have k:w1.cell? ⟨w.heap.size,4,none⟩=some (.int .i64 0):=a.out.cell 4 _ rfl;have l:w1.frozen? ⟨w.heap.size,0,none⟩=false:=frozen_of_row _ _ _ _ _ a.out;have m:w1.frozen? ⟨w.heap.size,1,none⟩=false:=frozen_of_row _ _ _ _ _ a.out;have n:w1.frozen? ⟨w.heap.size,2,none⟩=false:=frozen_of_row _ _ _ _ _ a.out;have o:w1.frozen? ⟨w.heap.size,3,none⟩=false:=frozen_of_row _ _ _ _ _ a.out;have p:w1.frozen? ⟨w.heap.size,4,none⟩=false:=frozen_of_row _ _ _ _ _ a.out;have b0:w.heap.size<w1.heap.size:=aw a.out)
 have s:Hid (Below w.heap.size w w1):=ab q.out f.out;refine bodyPost_ret (v:=cQ 2 1024 1033 par 1) (by simp[results,Tryz.results69,go_sem,c0,c1,i,j,k,l,m,n,o,p,b0]) rfl ⟨rfl,?_⟩;exact ae (bn (bn (bn (bn (bn s.out))))) _
theorem Gn (w:World):Calls Tryz.prog 110 #[.int .i64 12,.int .i64 4201] w λe w'=>e= .returned (.tuple #[.agg #[.int .i64 2,.int .i64 4096,.int .i64 4201],.int .i64 0])/\Below w.heap.size w w':=by
 have h:=kE 12 4201 w oO;have e:gl 12 4201=dP 2 4096 4201 0:=oN (w:=12) (by simp[kW]);rw[e]at h;exact h
theorem DX (w:World):Calls Tryz.prog 125 #[.int .i64 12,.int .i64 4201] w λe w'=>e= .returned (.tuple #[.agg #[.int .i64 2,.int .i64 4096,.int .i64 4201],.int .i64 0])/\Below w.heap.size w w':=by
 have h:=jK 12 4201 w oO;have e:gl 12 4201=dP 2 4096 4201 0:=oN (w:=12) (by simp[kW]);rw[e]at h;exact h
theorem Ds (par:Nat) (w:World) (h:eo 2 4096 4201 par 1):Calls Tryz.prog 61 #[.int .i64 12,.int .i64 par] w λe w'=>e= .returned (.tuple #[cQ 2 4096 4201 par 1,.int .i64 0])/\Below w.heap.size w w':=by
 have i:Hid (∀W,Calls Tryz.prog 111 #[.agg #[.int .i64 2,.int .i64 4096,.int .i64 4201],.int .i64 par,.int .i64 1] W λe w'=>e= .returned (.tuple #[.agg #[.int .i64 2,.int .i64 4096,.int .i64 4201,.int .i64 par,.int .i64 1],.int .i64 0])/\Below W.heap.size W w'):=λW=>nA 2 4096 4201 par 1 W h;have j:Hid (∀W,Calls Tryz.prog 110 #[.int .i64 12,.int .i64 4201] W λe w'=>e= .returned (.tuple #[.agg #[.int .i64 2,.int .i64 4096,.int .i64 4201],.int .i64 0])/\Below W.heap.size W w'):=λW=>Gn W;obtain⟨b,c⟩:∃b,b=w.alloc (.cells #[.int .i64 0,.int .i64 0,.int .i64 0,.int .i64 0,.int .i64 0] 91):=⟨_,rfl⟩;have s:Hid (Below w.heap.size w b):=by show Below _ _ _;rw[c];exact ar _ _
 have t:Hid (aa b w.heap.size #[.int .i64 0,.int .i64 0,.int .i64 0,.int .i64 0,.int .i64 0] 91):=by show aa _ _ _ _;rw[c];exact aa.new _ _ _ _ oS
 clear h;go_enter Tryz.func61,Tryz.ntmps61
 go_wp2_with(first
  |(go_at_call 110;refine(j.out _).mono ?_;rintro e w1 ⟨rfl,d⟩;rw[<-c]at d;have u:=Lib.hid d;clear d)
  |(go_at_call 111;refine(i.out _).mono ?_;rintro e w2 ⟨rfl,f⟩;have g:=Lib.hid (ab (ae u.out _) f);clear f;have a:=Lib.hid (t.out.below g.out);have c0:w2.cell? ⟨w.heap.size,0,none⟩=some (.int .i64 0):=a.out.cell 0 _ rfl;have c1:w2.cell? ⟨w.heap.size,1,none⟩=some (.int .i64 0):=a.out.cell 1 _ rfl;have k:w2.cell? ⟨w.heap.size,2,none⟩=some (.int .i64 0):=a.out.cell 2 _ rfl;have l:w2.cell? ⟨w.heap.size,3,none⟩=some (.int .i64 0):=a.out.cell 3 _ rfl;have m:w2.cell? ⟨w.heap.size,4,none⟩=some (.int .i64 0):=a.out.cell 4 _ rfl;have n:w2.frozen? ⟨w.heap.size,0,none⟩=false:=frozen_of_row _ _ _ _ _ a.out;have o:w2.frozen? ⟨w.heap.size,1,none⟩=false:=frozen_of_row _ _ _ _ _ a.out;have p:w2.frozen? ⟨w.heap.size,2,none⟩=false:=frozen_of_row _ _ _ _ _ a.out;have q:w2.frozen? ⟨w.heap.size,3,none⟩=false:=frozen_of_row _ _ _ _ _ a.out;have r:w2.frozen? ⟨w.heap.size,4,none⟩=false:=frozen_of_row _ _ _ _ _ a.out))
 have x:Hid (Below w.heap.size w w2):=ab s.out g.out;refine bodyPost_ret (v:= .tuple #[cQ 2 4096 4201 par 1,.int .i64 0]) (by simp[results,Tryz.results61,go_sem,c0,c1,k,l,m,n,o,p,q,r]) rfl ⟨rfl,?_⟩;exact bn (bn (bn (bn (bn x.out))))
theorem AO (par:Nat) (w:World):Calls Tryz.prog 69 #[.int .i64 12,.int .i64 par] w λe w'=>e= .returned (cQ 2 4096 4201 par 1)/\Below w.heap.size w w':=by
 have g:Hid (∀W,Calls Tryz.prog 125 #[.int .i64 12,.int .i64 4201] W λe w'=>e= .returned (.tuple #[.agg #[.int .i64 2,.int .i64 4096,.int .i64 4201],.int .i64 0])/\Below W.heap.size W w'):=λW=>DX W;obtain⟨b,c⟩:∃b,b=w.alloc (.cells #[.int .i64 0,.int .i64 0,.int .i64 0,.int .i64 0,.int .i64 0] 91):=⟨_,rfl⟩;have q:Hid (Below w.heap.size w b):=by show Below _ _ _;rw[c];exact ar _ _
 have r:Hid (aa b w.heap.size #[.int .i64 0,.int .i64 0,.int .i64 0,.int .i64 0,.int .i64 0] 91):=by show aa _ _ _ _;rw[c];exact aa.new _ _ _ _ oS
 go_enter Tryz.func69,Tryz.ntmps69;go_wp2_with(go_at_call 125;refine(g.out _).mono ?_;rintro e w1 ⟨rfl,d⟩;rw[<-c]at d;have f:=Lib.hid d;clear d;have a:=Lib.hid (r.out.below f.out);have c0:w1.cell? ⟨w.heap.size,0,none⟩=some (.int .i64 0):=a.out.cell 0 _ rfl;have c1:w1.cell? ⟨w.heap.size,1,none⟩=some (.int .i64 0):=a.out.cell 1 _ rfl;have i:w1.cell? ⟨w.heap.size,2,none⟩=some (.int .i64 0):=a.out.cell 2 _ rfl;have j:w1.cell? ⟨w.heap.size,3,none⟩=some (.int .i64 0):=a.out.cell 3 _ rfl;have k:w1.cell? ⟨w.heap.size,4,none⟩=some (.int .i64 0):=a.out.cell 4 _ rfl;have l:w1.frozen? ⟨w.heap.size,0,none⟩=false:=frozen_of_row _ _ _ _ _ a.out;have m:w1.frozen? ⟨w.heap.size,1,none⟩=false:=frozen_of_row _ _ _ _ _ a.out;have n:w1.frozen? ⟨w.heap.size,2,none⟩=false:=frozen_of_row _ _ _ _ _ a.out;have o:w1.frozen? ⟨w.heap.size,3,none⟩=false:=frozen_of_row _ _ _ _ _ a.out;have p:w1.frozen? ⟨w.heap.size,4,none⟩=false:=frozen_of_row _ _ _ _ _ a.out;have b0:w.heap.size<w1.heap.size:=aw a.out)
 have s:Hid (Below w.heap.size w w1):=ab q.out f.out;refine bodyPost_ret (v:=cQ 2 4096 4201 par 1) (by simp[results,Tryz.results69,go_sem,c0,c1,i,j,k,l,m,n,o,p,b0]) rfl ⟨rfl,?_⟩;exact ae (bn (bn (bn (bn (bn s.out))))) _
theorem IV (w par:Nat) (W:World) (a:kW w) (b:1<=par) (c:par<=2^w-2):Calls Tryz.prog 61 #[.int .i64 w,.int .i64 par] W λe w'=>e= .returned (.tuple #[cQ 2 (2^w) (kt w) par 1,.int .i64 0])/\Below W.heap.size W w':=by
 have h:=D9 a b c;rcases a with rfl|rfl|rfl|rfl|rfl
 ·exact wi par W h
 ·exact Fi par W h
 ·exact Fs par W h
 ·exact DB par W h
 ·exact Ds par W h
theorem EN (w par:Nat) (W:World) (a:kW w):Calls Tryz.prog 69 #[.int .i64 w,.int .i64 par] W λe w'=>e= .returned (cQ 2 (2^w) (kt w) par 1)/\Below W.heap.size W w':=by
 rcases a with rfl|rfl|rfl|rfl|rfl
 ·exact tT par W
 ·exact Dm par W
 ·exact Dl par W
 ·exact Bw par W
 ·exact AO par W
def eM (c:Bool):Nat:=if c=true then 64 else 2048
def iE (c:Bool):Nat:=if c=true then 2 else 5
def iY (c:Bool):Nat:=if c=true then 6 else 11
def fF (c:Bool):Nat:=if c=true then 5 else 6
theorem rr (c:Bool) (w:World):Calls Tryz.prog 57 #[.bool c] w λe w'=>e= .returned (.int .i64 ((eM c:Nat):Int))/\w'=w:=by
 cases c
 all_goals
  go_enter Tryz.func57,Tryz.ntmps57;go_wp2;go_ret;exact⟨rfl,rfl⟩
theorem ET (c:Bool) (w:World):Calls Tryz.prog 64 #[.bool c] w λe w'=>e= .returned (.int .i64 ((eM c:Nat):Int))/\w'=w:=by
 cases c
 all_goals
  go_enter Tryz.func64,Tryz.ntmps64;go_wp2;go_ret;exact⟨rfl,rfl⟩
theorem xp (c:Bool) (w:World):Calls Tryz.prog 58 #[.bool c] w λe w'=>e= .returned (.tuple #[.int .i64 ((iE c:Nat):Int),.int .i64 ((iY c:Nat):Int),.int .i64 ((fF c:Nat):Int)])/\w'=w:=by
 cases c
 all_goals
  go_enter Tryz.func58,Tryz.ntmps58;go_wp2;go_ret3;exact⟨rfl,rfl⟩
abbrev Pt:=Nat×Nat
def eg (p:Pt):List Value:=[.int .i64 (p.1:Int),.int .i64 (p.2:Int)]
theorem Jm (p:Pt):∀v∈eg p,v.oneCell'=true:=by
 intro v a;simp only[eg,List.mem_cons,List.not_mem_nil,or_false]at a;rcases a with rfl|rfl<;>rfl
theorem Ie (l:List Pt):∀v∈l.flatMap eg,v.oneCell'=true:=by
 intro v a;obtain⟨p,-,b⟩:=List.mem_flatMap.1 a;exact Jm p v b
theorem sk (l:List Pt):(l.flatMap eg).length=l.length* 2:=by
 induction l with
 |nil=>rfl
 |cons p l a=>simp only[List.flatMap_cons,List.length_append,a,List.length_cons];show 2+_=_;omega
theorem yo (l:List Pt) (i:Nat) (a:i<l.length):(l.flatMap eg)[2* i]?=some (.int .i64 ((l.getD i (0,0)).1:Int))/\(l.flatMap eg)[2* i+1]?=some (.int .i64 ((l.getD i (0,0)).2:Int)):=by
 induction l generalizing i with
 |nil=>simp at a
 |cons p l b=>
  cases i with
  |zero=>exact⟨rfl,rfl⟩
  |succ i=>
   have h:=b i (by simpa using a);simp only[List.flatMap_cons,eg];rw[show 2* (i+1)=2* i+2 from by omega];simp only[List.cons_append,List.nil_append,List.getElem?_cons_succ,List.getD_cons_succ];exact h
theorem nJ:(Tryz.prog.info? 47).map (λi=>(i.zero,i.size,i.bytes))=some (some (.agg #[.int .i64 0,.int .i64 0]),2,16):=oK
def wY (w:World) (A:Option Addr) (xs:List Pt):Prop:=0<xs.length->∃g a,A=some ⟨g,a,none⟩/\g<w.heap.size/\∀j,j<xs.length->w.cell? ⟨g,a+j* 2,none⟩=some (.int .i64 ((xs.getD j (0,0)).1:Int))/\w.cell? ⟨g,a+j* 2+1,none⟩=some (.int .i64 ((xs.getD j (0,0)).2:Int))
theorem wY.below {W a:World} {A:Option Addr} {xs:List Pt} (h:wY W A xs) (hb:Below W.heap.size W a):wY a A xs:=λhn=>by
 obtain⟨g,c,e,hl,hc⟩:=h hn;exact⟨g,c,e,Nat.lt_of_lt_of_le hl hb.size,λj b=>⟨(hb.cell hl).trans (hc j b).1,(hb.cell hl).trans (hc j b).2⟩⟩
def SP (w:World) (v:Value) (xs:List Pt):Prop:=∃A c,v= .slice A xs.length c/\xs.length<=c/\c<=maxLen/\wY w A xs
theorem SP.below {W a:World} {v:Value} {xs:List Pt} (h:SP W v xs) (hb:Below W.heap.size W a):SP a v xs:=by
 obtain⟨A,c,rfl,b,d,e⟩:=h;exact⟨A,c,rfl,b,d,e.below hb⟩
theorem SP.dD (w:World):SP w (.slice none 0 0) []:=⟨none,0,rfl,by simp,by simp,λh=>absurd h oS⟩
theorem SP.bU {W:World} {base:Nat} {e:TypeId} {n:Nat} {v:Value} {xs:List Pt} (h:W.ownsRow base e 2 v n (xs.flatMap eg)):SP W v xs:=by
 have hl:xs.length=n:=by have:=h.1;rw[sk]at this;omega
 rcases h.2 with⟨rfl,rfl⟩|⟨g,cap,d,rfl,hb,hg,f,rm,_⟩
 ·have:xs=[]:=List.eq_nil_of_length_eq_zero hl;subst this;exact SP.dD _
 ·refine⟨_,cap,by rw[hl],by omega,rm,λhn=>⟨g,0,rfl,aw hg,λj c=>?_⟩⟩;have a:=yo xs j c;have e:0+j* 2=2* j:=oO;have c1:=h.cells (g:=g) rfl (2* j) _ a.1;have b:=h.cells (g:=g) rfl (2* j+1) _ a.2;rw[add_plain,Nat.zero_add]at c1 b;rw[e];exact⟨c1,b⟩
structure aL (w wr:World) (v:Value) (l:List Pt):Prop where
 B:af w wr
 O:wr.ownsRow w.heap.size 47 2 v l.length (l.flatMap eg)
theorem aL.start (w:World):aL w w (.slice none 0 0) []:=⟨Below.refl _ _,World.ownsRow_nil _ _ _ _⟩
theorem aL.below {w wr W:World} {v:Value} {l:List Pt} (h:aL w wr v l) (a:Below wr.heap.size wr W):aL w W v l:=⟨ab h.B a,ah h.O a⟩
theorem aL.sp {w wr:World} {v:Value} {l:List Pt} (h:aL w wr v l):SP wr v l:=SP.bU h.O
theorem tN {W:World} {base:Nat} {v:Value} {n:Nat} {l:List Pt} (d:TypeId) (f:W.ownsRow base 47 2 v n (l.flatMap eg)) (w:base<=W.heap.size) (b:Addr) (m c:Nat) (ys:List Pt) (g:m=ys.length)
 (hc:∀j u,(ys.flatMap eg)[j]?=some u->W.cell? (b.add j)=some u) (hl:n+m<=1000000):
 ∃a w',(Builtin.append_ #[40,40] d #[v,.slice (some b) m c]).run Tryz.prog W= .ok a w'/\w'.ownsRow base 47 2 a (n+m) ((l++ys).flatMap eg)/\W.grownBy w' v.ownBlock/\(a.ownBlock=v.ownBlock\/a.ownBlock=some W.heap.size):=by
 obtain⟨i,k,q,r,s⟩:=info_parts nJ;obtain⟨a,w',t,e,o,_,p⟩:=run_append_own_at (P:=Tryz.prog) W base 40 d 47 i _ 2 16 Tryz.underlying40 k q r s rfl oO v n _ f b m c (ys.flatMap eg) (by rw[sk,g]) hc (Ie ys) oM oO w;rw[<-List.flatMap_append]at e;exact⟨a,w',t,e,o,p⟩
theorem aY {f:Array Oper} {g:List Oper} {d:Oper} {a:Act} {Q:Exit->Act->World->Prop} {W:World} {base:Nat} {v:Value} {n:Nat} {l:List Pt} (i:W.ownsRow base 47 2 v n (l.flatMap eg)) (B:base<=W.heap.size) (z:d.guard=none) (s y:Operand)
 (k:d.op= .call {callee:= .builtin .append,args:=#[s,y],argTypes:=#[40,40]}) (hs:a.eval s=v) (e:Addr) (m c:Nat) (ys:List Pt) (o:a.eval y= .slice (some e) m c) (p:m=ys.length)
 (hc:∀j u,(ys.flatMap eg)[j]?=some u->W.cell? (e.add j)=some u) (hl:n+m<=1000000)
 (q:∀b w',w'.ownsRow base 47 2 b (n+m) ((l++ys).flatMap eg)->W.grownBy w' v.ownBlock->(b.ownBlock=v.ownBlock\/b.ownBlock=some W.heap.size)->wpList Tryz.prog f Q g (a.put d.dst b) w'):wpList Tryz.prog f Q (d::g) a W:=by
 refine wpList_plain z λK r=>?_;obtain⟨b,w',A,t,w,x⟩:=tN d.type i B e m c ys p hc hl;unfold Oper.wp execOp;simp only[k,resolve,invoke,builtin,Sem.run_bind,Sem.run_pure,Result.andThen_ok,List.map_toArray,List.map_cons,List.map_nil,hs,o,A];exact r _ _ (q b w' t w x)
theorem aL.grow {w wr W w1:World} {v v1:Value} {l ys:List Pt} (h:aL w wr v l) (a:Below wr.heap.size wr W) (c:w1.ownsRow w.heap.size 47 2 v1 (l.length+ys.length) ((l++ys).flatMap eg)) (hg:W.grownBy w1 v.ownBlock):aL w w1 v1 (l++ys):=by
 refine⟨(ab h.B a).grown hg (by have:=(ab h.B a).size;exact this) (λk b=>(h.O.lt k b).1),?_⟩;rw[List.length_append];exact c
theorem cn (W:World) (ys:List Pt) (b:TypeId):∀j u,(ys.flatMap eg)[j]?=some u->(W.alloc (.cells (ys.flatMap eg).toArray b)).cell? ((⟨W.heap.size,0,none⟩:Addr).add j)=some u:=by
 intro j u a;have c:j<(ys.flatMap eg).length:=by
  rcases Nat.lt_or_ge j (ys.flatMap eg).length with h|h
  ·exact h
  ·rw[List.getElem?_eq_none h]at a;cases a
 rw[add_plain,Nat.zero_add];have:=(ai.new W (ys.flatMap eg).toArray b W.heap.size rfl).2 j (by simpa using c);rw[this];simp only[List.toList_toArray,List.getD,a,Option.getD_some]
def aZ (L:Nat) (c:Bool) (i:Nat):Nat:=
 if c=true then i else if i<ax L c/2 then(ao L c-1)/2-1-(ax L c/2-1-i)-(ax L c/2-1-i)/15 else(ao L c-1)/2+1+(i-ax L c/2)+(i-ax L c/2)/15
theorem Cf {L i:Nat} (c:L<=32) (a:i<ax L false/2):((aZ L false i:Nat):Int)=((ao L false:Int)-1)/2-1-((ax L false:Int)/2-1-i)-((ax L false:Int)/2-1-i)/15:=by
 have hb:ax L false=14+4* L:=rfl;have hs:ao L false=ax L false+1+2* ((ax L false/2-1)/15):=rfl;unfold aZ;simp only[Bool.false_eq_true,if_false];rw[if_pos a];generalize ao L false=b at*;generalize ax L false=B at*;omega
theorem CD {L i:Nat} (c:L<=32) (a:¬i<ax L false/2):((aZ L false i:Nat):Int)=((ao L false:Int)-1)/2+1+((i:Int)-(ax L false:Int)/2)+((i:Int)-(ax L false:Int)/2)/15:=by
 have hb:ax L false=14+4* L:=rfl;have hs:ao L false=ax L false+1+2* ((ax L false/2-1)/15):=rfl;unfold aZ;simp only[Bool.false_eq_true,if_false];rw[if_neg a];generalize ao L false=b at*;generalize ax L false=B at*;omega
def rN (L:Nat) (c:Bool) (i:Nat):Nat:=if c=true then 4* (L-i)+9 else 4* (L-i)+12
def uK (L:Nat) (c:Bool) (i s j k:Nat):Pt:=
 if s=0 then(2* i+k,2* i+j)else if s=1 then(2* i+j,ax L c-1-(2* i+k))else if s=2 then(ax L c-1-(2* i+k),ax L c-1-(2* i+j))else(ax L c-1-(2* i+j),2* i+k)
def l8 (L:Nat) (c:Bool) (p:Pt):Pt:=(aZ L c p.1,aZ L c p.2)
def bZ (L:Nat) (c:Bool) (i s j k:Nat):Pt:=l8 L c (uK L c i s j k)
def kL (L:Nat) (c:Bool) (i s j k:Nat):List Pt:=(List.range k).map (bZ L c i s j)
def jL (L:Nat) (c:Bool) (i s j:Nat):List Pt:=(List.range j).flatMap λj=>kL L c i s j 2
def sL (L:Nat) (c:Bool) (i s:Nat):List Pt:=(List.range s).flatMap λs=>jL L c i s (rN L c i)
def iL (L:Nat) (c:Bool) (i:Nat):List Pt:=(List.range i).flatMap λi=>sL L c i 4
def bR (L:Nat) (c:Bool):List Pt:=iL L c L
theorem JU (L:Nat) (c:Bool) (i s j k:Nat):kL L c i s j (k+1)=kL L c i s j k++[bZ L c i s j k]:=by unfold kL;rw[List.range_succ,List.map_append];rfl
theorem vC (L:Nat) (c:Bool) (i s j:Nat):jL L c i s (j+1)=jL L c i s j++kL L c i s j 2:=by unfold jL;rw[List.range_succ,List.flatMap_append,List.flatMap_singleton]
theorem r4 (L:Nat) (c:Bool) (i s:Nat):sL L c i (s+1)=sL L c i s++jL L c i s (rN L c i):=by unfold sL;rw[List.range_succ,List.flatMap_append,List.flatMap_singleton]
theorem pj (L:Nat) (c:Bool) (i:Nat):iL L c (i+1)=iL L c i++sL L c i 4:=by unfold iL;rw[List.range_succ,List.flatMap_append,List.flatMap_singleton]
theorem wz (L:Nat) (c:Bool) (i s j k:Nat):(kL L c i s j k).length=k:=by unfold kL;simp
theorem nO (L:Nat) (c:Bool) (i s:Nat):∀j,(jL L c i s j).length=2* j
 |0=>rfl
 |j+1=>by rw[vC,List.length_append,nO L c i s j,wz];omega
theorem j1 (L:Nat) (c:Bool) (i:Nat):∀s,(sL L c i s).length=s* (2* rN L c i)
 |0=>by simp[sL]
 |s+1=>by rw[r4,List.length_append,j1 L c i s,nO,Nat.add_mul,Nat.one_mul]
theorem xS {L i:Nat} {c:Bool} (h:L<=32):rN L c i<=140:=by unfold rN;split<;>omega
theorem xM {L:Nat} {c:Bool} (h:L<=32):∀i,(iL L c i).length<=i* 1120
 |0=>by simp[iL]
 |i+1=>by
  have a:=xM (c:=c) h i;have b:=xS (i:=i) (c:=c) h;rw[pj,List.length_append,j1];omega
end
end Go.Proofs.YtmnlkganmgcpbaaGreatDoor
