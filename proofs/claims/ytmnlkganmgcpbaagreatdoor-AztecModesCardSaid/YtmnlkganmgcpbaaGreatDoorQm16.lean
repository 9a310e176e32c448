import Derived.Test.YtmnlkganmgcpbaaGreatDoorQm15
set_option maxRecDepth 100000
set_option maxHeartbeats 4000000
set_option linter.unusedVariables false
set_option linter.unusedSectionVars false
set_option linter.unusedSimpArgs false
namespace Go.Proofs.YtmnlkganmgcpbaaGreatDoor
section
open Go.RowKit
theorem tk (A:Option Addr) (m c:Nat) (b:List Bool) (v n:Nat) (w:World) (f:v<=1000000000000) (hn:n<=62) (S:m<=1000) (hb:SR vB false w A m c b):
 Calls Tryz.prog 59 #[.slice A m c,.int .i64 v,.int .i64 n] w (RT vB false w (b++bh v n,0)):=by
 obtain⟨t,x,F,G,H⟩:=info_parts gU;obtain⟨N,T⟩:∃N,m+n=N:=⟨_,rfl⟩;have V:(m:Int)+(n:Int)=(N:Int):=oO;have o:m<=N:=oO;have X:N<=1062:=oO;have Y:∀W:World,(Instr.makeSlice 26 (.int .i64 (m:Int)) (.int .i64 (N:Int))).run Tryz.prog W= .ok (.slice (some ⟨W.heap.size,0,none⟩) m N) (W.alloc (.cells (madeCells #[Value.bool false] N) 4)):=λW=>by
  have h:=run_make (P:=Tryz.prog) W 26 4 t (.bool false) Tryz.underlying26 x F .i64 .i64 (m:Int) (N:Int) oO oO (by rw[H];omega) oO;rw[G,Nat.mul_one]at h;simp only[Int.toNat_natCast]at h;exact h
 have z:=Lib.hid hb;have a:Hid (m=b.length):=hb.hn;have J:Hid (∀g:World,g.heap[w.heap.size]?=some (.cells (splice (madeCells #[Value.bool false] N).toList 0 (b.map vB)).toArray 4 (0,0))->g.ownsRow w.heap.size 4 1 (.slice (some ⟨w.heap.size,0,none⟩) m N) b.length (b.map vB)):=by
  show∀_,_;intro g d;have hl:(madeCells #[Value.bool false] N).toList.length=N:=by simp[madeCells]
  have K:(splice (madeCells #[Value.bool false] N).toList 0 (b.map vB)).length=N:=by rw[length_splice _ _ _ (by rw[hl,List.length_map,<-a.out];omega),hl]
  refine⟨by simp,.inr ⟨w.heap.size,N,_,by rw[a.out],Nat.le_refl _,d,by rw[<-a.out];exact o,by unfold maxLen;omega,by simpa using K,?_⟩⟩;simp[splice,List.take_append]
 have B:Hid (∀W,af w W->0<(b.map vB).length->∃i,A=some i/\∀j v,(b.map vB)[j]?=some v->W.cell? (i.add j)=some v):=by
  show∀W,_;intro W C k;obtain⟨i,e,D,d⟩:=z.out.rd (by simpa using k);refine⟨i,e,λj v f=>?_⟩;rw[C.cell (by rw[aI];exact D)];have l:j<b.length:=by
   rcases Nat.lt_or_ge j b.length with h|h
   ·exact h
   ·rw[List.getElem?_eq_none (by simpa using h)]at f;cases f
  rw[d j l];simpa[List.getD,l]using f
 have Z:m<=1048576-n:=oO;have L:Hid (b.length<=100000000):=by show _<=_;rw[<-a.out];omega
 clear hb;go_enter Tryz.func59,Tryz.ntmps59
 go_wp2_with(first
  |((with_reducible show wpList _ _ _ (⟨_,Op.call ⟨Callee.builtin Builtin.copy,_,_⟩,_,_,_,_⟩::_) _ _);(refine wpList_copy_splice rfl _ _ 26 26 rfl 4 Tryz.underlying26 G7 _ A m N m c rfl rfl w.heap.size 0 (madeCells #[Value.bool false] N).toList 4 (heap_alloc_new _ _) (b.map vB) (by rw[List.length_map,<-a.out];exact(Nat.min_self m).symm) (λk=>⟨rfl,B.out _ (ax _ _) k⟩) (by simp[madeCells];rw[<-a.out];exact o) (λu E=>by obtain⟨y,_,rfl⟩:=List.mem_map.1 E;rfl) w.heap.size w (ax _ _) (Nat.le_refl _) ?_);intro g d p;have M:=Lib.hid (J.out g d.out);have q:=Lib.hid p;clear d p)
  |(go_at_call 108;refine(ni w.heap.size b _ v n _ f hn L.out q.out.size M.out).mono ?_;rintro e U ⟨u3,rfl,r,s⟩;have O:=Lib.hid r;have Q:=Lib.hid s;clear r s))
 go_ret2
 exact RT.mk rfl (SG.bK O.out) (q.out.trans Q.out)
def aL (b:List Bool) (s m:Nat):List Nat:=(List.range m).map λi=>numF b (i* s) s
theorem eO (b:List Bool) (s m:Nat):(aL b s m).length=m:=by unfold aL;simp
theorem tU (b:List Bool) (s m:Nat):aL b s (m+1)=aL b s m++[numF b (m* s) s]:=by unfold aL;rw[List.range_succ,List.map_append];rfl
theorem mJ (b:List Bool) (s m:Nat):aj (2^s) (aL b s m):=λi=>by
 have a:1<=2^s:=Nat.one_le_two_pow;rcases Nat.lt_or_ge i m with h|h
 ·unfold aL;rw[aQ _ _ _ h];exact mo _ _ _
 ·rw[iW (by rw[eO];exact h)];omega
theorem SR.piece {α:Type} {f:α->Value} {d:α} {w:World} {e:Addr} {n c:Nat} {l:List α} (h:SR f d w (some e) n c l) (a k b:Nat) (i:a+k<=n) (hc:k<=b) (g:b<=c):SR f d w (some (e.add a)) k b ((l.drop a).take k):=by
 have hn:=h.hn;refine⟨by rw[List.length_take,List.length_drop];omega,hc,Nat.le_trans g h.hm,?_⟩;exact(h.rd.drop a).take k
theorem jk (b:List Bool) (a k:Nat):numF ((b.drop a).take k) 0 k=numF b a k:=by
 rw[F1 _ _ _ _ oO,FL,Nat.add_zero]
theorem pr {P:Program} {c:Array Oper} {d:List Oper} {b:Oper} {a:Act} {Q:Exit->Act->World->Prop} {w:World} {v:Value} (i:Region.wanted b (yielded c a.tmps)=true) (e:(execOp a.eval b).run P w= .ok (.value v) w) (f:wpList P c Q d (a.put b.dst v) w):wpList P c Q (b::d) a w:=by
 refine wpList_step λK g=>?_;simp only[i,if_true];unfold Oper.wp;rw[e];exact g _ _ f
theorem px {a:Act} {e:Oper} {W:World} {x i j:Operand} (g:e.op= .slice 26 x (some i) (some j) none) {b:Addr} {n c:Nat} (l:a.eval x= .slice (some b) n c) {I f:Int} (o:a.eval i= .int .i64 I) (p:a.eval j= .int .i64 f) (k m:Nat) (q:I=(k:Int)) (r:f=(m:Int)) (t:k<=m) (u:m<=c) (hc:k<c):
 (execOp a.eval e).run Tryz.prog W= .ok (.value (.slice (some (b.add k)) (m-k) (c-k))) W:=by
 subst q r;have d:=run_slice_lh (P:=Tryz.prog) W 26 (some b) n c Bx .i64 .i64 (k:Int) (m:Int) oO oO oO;rw[D7]at d;simp only[Result.andThen_ok,sliced,Int.toNat_natCast,Nat.mul_one,Option.map_some]at d;rw[if_neg oO]at d;have s:=run_sliceAt_slice (P:=Tryz.prog) W 26 (.slice (some b) n c) (some (.int .i64 (k:Int))) (some (.int .i64 (m:Int))) none Bx;unfold execOp;simp only[g,l,o,p,Option.map_some,Option.map_none,Sem.run_bind,Sem.run_pure,Result.andThen_ok,s,d]
theorem yf (A:Option Addr) (n c at_ m:Nat) (b:List Bool) (w:World) (u:1<=m) (f:m<=40) (a:at_+m<=n) (hn:n<=1048576) (hb:SR vB false w A n c b):
 Calls Tryz.prog 67 #[.slice A n c,.int .i64 at_,.int .i64 m] w (λe w'=>e= .returned (.tuple #[.int .i64 ((numF b at_ m:Nat):Int),.int .i64 0])/\w'=w):=by
 have g:Hid (n=b.length):=hb.hn;obtain⟨i,rfl,-,-⟩:=hb.rd (by rw[<-g.out];omega);obtain⟨E,j⟩:∃E,at_+m=E:=⟨_,rfl⟩;have v:(at_:Int)+(m:Int)=(E:Int):=oO;obtain⟨r,k⟩:∃r,r=n-at_:=⟨_,rfl⟩;have x:(n:Int)-(at_:Int)=(r:Int):=oO;have l:=hb.hc;have o:Hid (E<=c):=by show _<=_;omega
 have p:Hid (at_<=E):=by show _<=_;omega
 have q:Hid (at_<c):=by show _<_;omega
 have s:Hid (E-at_=m):=by show _=_;omega
 have y:decide (r<m)=false:=by simp;omega
 have z:at_<=n:=oO;have t:Hid (Calls Tryz.prog 109 #[.slice (some (i.add at_)) m (c-at_)] w λe w'=>e= .returned (.int .i64 ((numF b at_ m:Nat):Int))/\w'=w):=by
  show Calls _ _ _ _ _;rw[<-jk];exact wk _ m _ _ w f (hb.piece at_ m _ a oO oO)
 clear hb k a l j;go_enter Tryz.func67,Tryz.ntmps67
 go_wp2_with(first
  |((with_reducible show wpList _ _ _ (⟨_,Op.slice 26 _ _ _ _,_,_,_,_⟩::_) _ _);refine pr rfl (px rfl rfl rfl rfl at_ E rfl rfl p.out o.out q.out) ?_;rw[s.out])
  |(go_at_call 109;refine t.out.mono ?_;rintro e w' ⟨rfl,d⟩;rw[d];clear d))
 go_ret2
 exact⟨rfl,rfl⟩
theorem vT (A:Option Addr) (n c s m:Nat) (b:List Bool) (w:World) (Z:1<=s) (hs:s<=12) (o:n=m* s) (hn:n<=100000) (hb:SR vB false w A n c b):
 Calls Tryz.prog 60 #[.slice A n c,.int .i64 s,.bool false] w (RT vN 0 w (aL b s m,0)):=by
 obtain⟨y,z,H,J,K⟩:=info_parts bZ;have k:=Lib.hid hb;have p:=Lib.hid o;have ab:m<=n:=by rw[o];exact Nat.le_mul_of_pos_right m oO
 clear hb o;go_enter Tryz.func60,Tryz.ntmps60;go_wp2;go_loopw [8,9] (λB q wr=>∃i a:Nat,i<=m/\a<=n/\q= .int .i64 a/\Hid (a=i* s)/\Hid (OG vN 3 w wr B (aL b s i))) (λ_ q _=>n-(intOf q).toNat)
 case atStart=>exact⟨0,0,Nat.zero_le _,Nat.zero_le _,rfl,by show _=_;rw[Nat.zero_mul],OG.start _ _⟩
 case round=>
  obtain⟨i,a,ac,ad,rfl,j,g⟩:=hrel;by_cases al:a<n
  ·have am:i<m:=by
    apply Classical.byContradiction;intro h;have:i=m:=oO;have l:=j.out;rw[this,<-p.out]at l;omega
   obtain⟨E,r⟩:∃E,E=a+s:=⟨_,rfl⟩;have L:E<=n:=by
    have l:=j.out;have W:=p.out;have C:(i+1)* s<=m* s:=Nat.mul_le_mul_right s oO;rw[Nat.add_mul,Nat.one_mul]at C;omega
   have ap:(a:Int)+(s:Int)=(E:Int):=oO;have av:min (E:Int) (n:Int)=(E:Int):=oO;have M:=Lib.hid (k.out.below g.out.B);have N:=k.out.hc;obtain⟨D,rfl,-,-⟩:=k.out.rd (by rw[<-k.out.hn];omega);have O:Hid (a<=E):=by show _<=_;omega
   have P:Hid (E<=c):=by show _<=_;omega
   have Q:Hid (a<c):=by show _<_;omega
   have S:Hid (E-a=s):=by show _=_;omega
   have T:Hid (E=(i+1)* s):=by show _=_;rw[r,j.out,Nat.add_mul,Nat.one_mul]
   have U:Hid (Calls Tryz.prog 109 #[.slice (some (D.add a)) s (c-a)] wr λe w'=>e= .returned (.int .i64 ((numF b a s:Nat):Int))/\w'=wr):=by
    show Calls _ _ _ _ _;rw[<-jk];exact wk _ s _ _ wr oO (M.out.piece a s _ oO oO oO)
   have V:Hid (aL b s (i+1)=aL b s i++[numF b a s]):=by show _=_;rw[tU,j.out]
   have t:Hid ((aL b s i).length<=100000):=by show _<=_;rw[eO];omega
   generalize numF b a s=x at*;have has:a+s<=100012:=oO;clear N r
   go_wp2_with(first
    |((with_reducible show wpList _ _ _ (⟨_,Op.slice 26 _ _ _ _,_,_,_,_⟩::_) _ _);refine pr rfl (px rfl rfl rfl rfl a E rfl rfl O.out P.out Q.out) ?_;rw[S.out])
    |(go_at_call 109;refine U.out.mono ?_;rintro e w' ⟨rfl,u⟩;rw[u];clear u))
   refine wp_loop_rounds 1 ?_;rw[rounds_succ];go_wp2_with(at_builtin;refine bg (f:=vN) (d:=0) qy rfl _ _ _ rfl w.heap.size 3 y _ 8 Tryz.underlying64 z H J K rfl _ (aL b s i).length (aL b s i) rfl (ao g.out.O (ax _ _)) (some ⟨wr.heap.size,0,none⟩) 1 1 [x] rfl rfl (RG.one _ _ _ _ rfl) (by have:=t.out;unfold maxLen;omega) (by have:=t.out;omega) (by have:=g.out.B.size;simp;omega) ?_;intro X Y v hg;have F:=Lib.hid (g.out.grow (ax _ _) v hg);clear v hg)
   exact⟨⟨i+1,E,by omega,L,by go_num,T,by show OG _ _ _ _ _ _;rw[V.out];exact F.out⟩,by simp[intOf];omega⟩
  ·obtain rfl:a=n:=oO;have G:Hid (aL b s i=aL b s m):=by
    show _=_;have l:i* s=m* s:=by rw[<-j.out,p.out]
    have:i=m:=Nat.eq_of_mul_eq_mul_right oO l;rw[this]
   go_wp2;go_ret2
   exact RT.mk rfl (by rw[<-G.out];exact g.out.sg) g.out.B
def bc (l:List Nat) (s:Nat):List Bool:=l.flatMap λv=>bh v s
theorem dc (l:List Nat) (s:Nat):(bc l s).length=l.length* s:=by
 induction l with
 |nil=>simp[bc]
 |cons v l a=>
  show(bh v s++bc l s).length=_;rw[List.length_append,bM,a,List.length_cons,Nat.add_mul,Nat.one_mul,Nat.add_comm]
theorem E3 (l:List Nat) (v s:Nat):bc (l++[v]) s=bc l s++bh v s:=by simp[bc]
theorem uY (l:List Nat) (s:Nat) {i:Nat} (a:i<l.length):bc (l.take (i+1)) s=bc (l.take i) s++bh (l.getD i 0) s:=by
 rw[ma l a,E3]
theorem nh (A:Option Addr) (n c s:Nat) (l:List Nat) (w:World) (U:1<=s) (hs:s<=12) (hn:n<=8000) (hl:aj (2^s) l) (hb:SR vN 0 w A n c l):
 Calls Tryz.prog 63 #[.slice A n c,.int .i64 s] w (RT vB false w (bc l s,0)):=by
 obtain⟨t,u,D,E,F⟩:=info_parts gU;have v:=Lib.hid hb;have a:Hid (n=l.length):=hb.hn;have y:=Lib.hid hl;obtain⟨N,b⟩:∃N,N=n* s:=⟨_,rfl⟩;have V:N<=96000:=by rw[b];exact Nat.mul_le_mul hn hs
 have W:(n:Int)* (s:Int)=(N:Int):=by rw[b];simp
 have hq:decide ((1048576:Int)/(s:Int)<(n:Int))=false:=by
  have z:(8000:Int)<=1048576/(s:Int):=Int.le_ediv_of_mul_le oO oO;simp;omega
 clear hb hl b;go_enter Tryz.func63,Tryz.ntmps63;go_wp2_with(at_make;refine wpList_make_own _ rfl _ _ _ rfl w.heap.size 4 t _ 1 Tryz.underlying26 u D E .i64 .i64 _ N rfl rfl (by first|rfl|omega) (by rw[F];omega) oM (Nat.le_refl _) ?_;intro B r hg;have G:=Lib.hid r;have H:Hid (Below w.heap.size w B):=(Below.refl _ _).grown hg (Nat.le_refl _) (λq hq=>by cases hq);clear r hg)
 go_loopw [6,27] (λC d wr=>∃i:Nat,i<=n/\d= .int .i64 i/\Hid (Below w.heap.size w wr)/\Hid (wr.ownsRow w.heap.size 4 1 C (bc (l.take i) s).length ((bc (l.take i) s).map vB))) (λ_ d _=>n-(intOf d).toNat)
 case atStart=>exact⟨0,Nat.zero_le _,rfl,H.out,G.out⟩
 case round=>
  obtain⟨i,X,rfl,hB,g⟩:=hrel;by_cases k:i<n
  ·obtain⟨P,rfl,O,m⟩:=(v.out.below hB.out).rd (by rw[<-a.out];omega);have Q:=m i (by rw[<-a.out];exact k);have j:Hid (l.getD i 0<2^s):=y.out i;have f:Hid (bc (l.take (i+1)) s=bc (l.take i) s++bh (l.getD i 0) s):=uY l s (by rw[<-a.out];exact k);have J:Hid ((bc (l.take i) s).length<=100000000):=by
    show _<=_;rw[dc,List.length_take];have:min i l.length* s<=8000* 12:=Nat.mul_le_mul oO hs;omega
   generalize l.getD i 0=x at*;have K:x<=1000000000000:=by have z:=j.out;have S:=qV hs;omega
   have Y:(x:Int)/2^s=0:=by
    have e:(x:Int)/2^s=((x/2^s:Nat):Int):=by simp
    rw[e,Nat.div_eq_of_lt j.out];rfl
   clear m O;go_wp2_with(go_at_call 108;refine(ni w.heap.size (bc (l.take i) s) _ x s _ K oO J.out hB.out.size g.out).mono ?_;rintro e T ⟨u3,rfl,o,p⟩;have L:=Lib.hid o;have M:=Lib.hid p;clear o p)
   exact⟨⟨i+1,by omega,by go_num,hB.out.trans M.out,by rw[f.out];exact L.out⟩,by simp[intOf];omega⟩
  ·obtain rfl:n=i:=oO;have f:Hid (l.take n=l):=by show _=_;rw[a.out,List.take_length]
   go_wp2;go_ret2
   exact RT.mk rfl (by have h:=g.out;rw[f.out]at h;exact SG.bK h) hB.out
def fM (L:Int) (c:Bool):Bool:=decide (1<=L)&&(decide (L<=4)||(decide (L<=32)&&!c))
def aJ (L:Nat) (c:Bool):Nat:=if c=true then 11+4* L else 14+4* L
def aD (L:Nat) (c:Bool):Nat:=if c=true then aJ L c else aJ L c+1+2* ((aJ L c/2-1)/15)
def iT (L:Nat) (c:Bool):Nat:=if c=true then(88+16* L)* L else(112+16* L)* L
def aB (L:Nat):Nat:=if L<=2 then 6 else if L<=8 then 8 else if L<=22 then 10 else 12
def bH (L:Nat) (c:Bool):Nat:=iT L c/aB L
theorem nH {L:Int} {c:Bool} (h:fM L c=true):∃k:Nat,L=(k:Int)/\1<=k/\k<=32/\(c=true->k<=4):=by
 unfold fM at h;simp only[Bool.and_eq_true,Bool.or_eq_true,decide_eq_true_eq,Bool.not_eq_true']at h;refine⟨L.toNat,by omega,by omega,by omega,λe=>?_⟩;rcases h.2 with a|a
 ·omega
 ·rw[e]at a;cases a.2
theorem exB_of {k:Nat} {c:Bool} (b:1<=k) (d:k<=32) (a:c=true->k<=4):fM (k:Int) c=true:=by
 unfold fM;cases c with
 |true=>have:=a rfl;simp;omega
 |false=>simp;omega
theorem jH {L:Nat} {c:Bool} (h:L<=32):11<=aJ L c/\aJ L c<=142:=by unfold aJ;split<;>omega
theorem gM {L:Nat} {c:Bool} (h:L<=32):11<=aD L c/\aD L c<=161:=by
 have:=jH (c:=c) h;unfold aD;split<;>omega
theorem room_le {L:Nat} {c:Bool} (h:L<=32):iT L c<=20000:=by
 unfold iT;split
 ·exact Nat.le_trans (Nat.mul_le_mul (show 88+16* L<=600 by omega) h) oO
 ·exact Nat.le_trans (Nat.mul_le_mul (show 112+16* L<=624 by omega) h) oO
theorem iE (L:Nat):aB L=6\/aB L=8\/aB L=10\/aB L=12:=by unfold aB;(repeat' split)<;>simp
theorem ub {L:Nat} {c:Bool} (h:L<=32):bH L c<=4000:=by
 unfold bH;have b:=room_le (c:=c) h;have a:=iE L;rcases a with e|e|e|e<;>rw[e]<;>omega
abbrev cn (L:Int) (c:Bool):Value:= .agg #[.int .i64 L,.bool c]
abbrev bL (L:Int) (c:Bool):Obj:= .cells #[.int .i64 L,.bool c] 60
theorem eV (w:World) (L:Int) (c:Bool):Hid (∀W,af (w.alloc (bL L c)) W->W.cell? ⟨w.heap.size,0,none⟩=some (.int .i64 L)/\W.cell? ⟨w.heap.size,1,none⟩=some (.bool c)):=by
 show∀W,_;intro W b;have h:an (w.alloc (bL L c)) w.heap.size [.int .i64 L,.bool c]:=an.new _ _ _ _ rfl;have a:=h.below b;exact⟨a.2 0 oS,a.2 1 oS⟩
theorem fO (L:Int) (c:Bool) (w:World):Calls Tryz.prog 29 #[cn L c] w λe w'=>e= .returned (.bool (fM L c))/\Below w.heap.size w w':=by
 have hB:Hid (Below w.heap.size w (w.alloc (bL L c))):=ax _ _;by_cases d:1<=L
 ·cases c with
  |true=>
   go_enter Tryz.func29,Tryz.ntmps29;go_wp2
   all_goals(go_ret;exact⟨aK (by unfold fM;by_cases a:L<=4<;>by_cases b:L<=32<;>simp[d,a,b]<;>omega),hB.out⟩)
  |false=>
   go_enter Tryz.func29,Tryz.ntmps29;go_wp2
   all_goals(go_ret;exact⟨aK (by unfold fM;by_cases a:L<=4<;>by_cases b:L<=32<;>simp[d,a,b]<;>omega),hB.out⟩)
 ·go_enter Tryz.func29,Tryz.ntmps29;go_wp2
  all_goals(go_ret;exact⟨aK (by unfold fM;simp;omega),hB.out⟩)
theorem qo (L:Nat) (c:Bool) (w:World) (h:L<=32):Calls Tryz.prog 85 #[cn L c] w λe w'=>e= .returned (.int .i64 ((aJ L c:Nat):Int))/\Below w.heap.size w w':=by
 have hB:Hid (Below w.heap.size w (w.alloc (bL L c))):=ax _ _;cases c with
 |true=>
  go_enter Tryz.func85,Tryz.ntmps85;go_wp2;go_ret;exact⟨bG (by unfold aJ;simp),hB.out⟩
 |false=>
  go_enter Tryz.func85,Tryz.ntmps85;go_wp2;go_ret;exact⟨bG (by unfold aJ;simp),hB.out⟩
theorem qH (L:Nat) (c:Bool) (w:World) (h:L<=32):Calls Tryz.prog 36 #[cn L c] w λe w'=>e= .returned (.int .i64 ((aD L c:Nat):Int))/\Below w.heap.size w w':=by
 have d:=eV w L c;have l:=Lib.hid (jH (c:=c) h);have f:Hid (aD L c=if c=true then aJ L c else aJ L c+1+2* ((aJ L c/2-1)/15)):=rfl;have g:Hid (∀W,Calls Tryz.prog 85 #[cn L c] W λe w'=>e= .returned (.int .i64 ((aJ L c:Nat):Int))/\Below W.heap.size W w'):=λW=>qo L c W h;generalize aJ L c=B at*;obtain⟨m,n⟩:=l.out;cases c with
 |true=>
  go_enter Tryz.func36,Tryz.ntmps36;go_wp2_with(go_at_call 85;refine(g.out _).mono ?_;rintro e i ⟨rfl,a⟩;have b:=Lib.hid a;clear a;obtain⟨j,k⟩:=d.out _ b.out)
  go_ret;exact⟨bG (by rw[f.out];simp),cQ b.out⟩
 |false=>
  go_enter Tryz.func36,Tryz.ntmps36;go_wp2_with(go_at_call 85;refine(g.out _).mono ?_;rintro e i ⟨rfl,a⟩;have b:=Lib.hid a;clear a;obtain⟨j,k⟩:=d.out _ b.out)
  go_ret;exact⟨bG (by rw[f.out];simp;omega),cQ b.out⟩
theorem ux (L:Nat) (c:Bool) (w:World) (h:L<=32):Calls Tryz.prog 89 #[cn L c] w λe w'=>e= .returned (.int .i64 ((iT L c:Nat):Int))/\Below w.heap.size w w':=by
 have hB:Hid (Below w.heap.size w (w.alloc (bL L c))):=ax _ _;have a:=Lib.hid (room_le (c:=c) h);have b:Hid (iT L c=if c=true then(88+16* L)* L else(112+16* L)* L):=rfl;generalize iT L c=R at*;cases c with
 |true=>
  have d:(88+16* (L:Int))* (L:Int)=(R:Int):=by rw[b.out];simp
  have f:=a.out;go_enter Tryz.func89,Tryz.ntmps89;go_wp2;go_ret;exact⟨rfl,hB.out⟩
 |false=>
  have d:(112+16* (L:Int))* (L:Int)=(R:Int):=by rw[b.out];simp
  have f:=a.out;go_enter Tryz.func89,Tryz.ntmps89;go_wp2;go_ret;exact⟨rfl,hB.out⟩
theorem l8 (L:Nat) (c:Bool) (w:World) (h:L<=32):Calls Tryz.prog 33 #[cn L c] w λe w'=>e= .returned (.int .i64 ((aB L:Nat):Int))/\Below w.heap.size w w':=by
 have hB:Hid (Below w.heap.size w (w.alloc (bL L c))):=ax _ _;go_enter Tryz.func33,Tryz.ntmps33;go_wp2
 all_goals(go_ret;exact⟨bG (by unfold aB;(repeat' split)<;>first|rfl|omega),hB.out⟩)
theorem sC (L:Nat) (c:Bool) (w:World) (h:L<=32):Calls Tryz.prog 44 #[cn L c] w λe w'=>e= .returned (.int .i64 ((bH L c:Nat):Int))/\Below w.heap.size w w':=by
 have a:=eV w L c;have m:Hid (∀W,Calls Tryz.prog 89 #[cn L c] W λe w'=>e= .returned (.int .i64 ((iT L c:Nat):Int))/\Below W.heap.size W w'):=λW=>ux L c W h;have n:Hid (∀W,Calls Tryz.prog 33 #[cn L c] W λe w'=>e= .returned (.int .i64 ((aB L:Nat):Int))/\Below W.heap.size W w'):=λW=>l8 L c W h;have o:=Lib.hid (room_le (c:=c) h);have p:=Lib.hid (iE L);have i:Hid (bH L c=iT L c/aB L):=rfl;obtain⟨q,r⟩:=a.out _ (Below.refl _ _);generalize iT L c=R at*;generalize aB L=s at*;have u:s≠0:=by rcases p.out with e|e|e|e<;>omega
 have v:(0:Int)<(s:Int):=oO;have x:¬((s:Int)=0):=oO;have y:0<s:=oO;have t:=o.out;go_enter Tryz.func44,Tryz.ntmps44;go_wp2;refine yO (af (w.alloc (bL L c))) [1,3,0,2,4,0,5,6] (ai (Below.refl _ _)) ?_
 repeat refine zO a.out ?_
 refine zZ ?_;refine(m.out _).mono ?_;rintro e j ⟨rfl,b⟩;have d:Hid (af (w.alloc (bL L c)) j):=aa (ai (Below.refl _ _)) b;clear b;refine⟨_,rfl,d.out,jO ?_⟩;refine zZ ?_;refine(n.out _).mono ?_;rintro e k ⟨rfl,f⟩;have g:Hid (af (w.alloc (bL L c)) k):=aa d.out f;clear f;refine⟨_,rfl,g.out,jO ?_⟩;have l:Hid ((R:Int)/(s:Int)=((bH L c:Nat):Int)):=by show _=_;rw[i.out];simp
 have hq:=l.out;have z:IntKind.i64.wrap ((bH L c:Nat):Int)=((bH L c:Nat):Int):=aE _ oO (by have:=ub (c:=c) h;omega)
 repeat refine zO a.out ?_
 refine ag ?_;go_wp2;go_ret;exact⟨rfl,cQ g.out⟩
def MQ (w:World) (a b:Int) (e:Ending) (w':World):Prop:=e= .returned (.tuple #[.int .i64 a,.int .i64 b])/\Below w.heap.size w w'
def Lt (w:World) (a b c:Int) (e:Ending) (w':World):Prop:=e= .returned (.tuple #[.int .i64 a,.int .i64 b,.int .i64 c])/\Below w.heap.size w w'
def sQ (L:Int) (c:Bool):Int×Int:=if fM L c=true then(((aD L.toNat c:Nat):Int),0)else(0,14)
def AX (L:Int) (c:Bool):Int×Int×Int:=if fM L c=true then(((aB L.toNat:Nat):Int),((bH L.toNat c:Nat):Int),0)else(0,0,14)
theorem uF (L:Int) (c:Bool) (w:World):Calls Tryz.prog 13 #[.int .i64 L,.bool c] w (MQ w (sQ L c).1 (sQ L c).2):=by
 have i:=eV w L c;have f:Hid (∀W,Calls Tryz.prog 29 #[cn L c] W λe w'=>e= .returned (.bool (fM L c))/\Below W.heap.size W w'):=λW=>fO L c W;cases a:fM L c with
 |false=>
  have g:Hid (sQ L c=(0,14)):=by show _=_;unfold sQ;rw[a];rfl
  rw[a]at f;clear a;go_enter Tryz.func13,Tryz.ntmps13;go_wp2_with(go_at_call 29;refine(f.out _).mono ?_;rintro e l ⟨rfl,b⟩;have d:=Lib.hid b;clear b;obtain⟨m,n⟩:=i.out _ d.out)
  go_ret2
  rw[g.out];exact⟨rfl,cQ d.out⟩
 |true=>
  obtain⟨k,rfl,s,o,p⟩:=nH a;have g:Hid (sQ k c=(((aD k c:Nat):Int),0)):=by show _=_;unfold sQ;rw[a];simp
  have q:Hid (∀W,Calls Tryz.prog 36 #[cn k c] W λe w'=>e= .returned (.int .i64 ((aD k c:Nat):Int))/\Below W.heap.size W w'):=λW=>qH k c W o;rw[a]at f;clear a p;go_enter Tryz.func13,Tryz.ntmps13
  go_wp2_with(first
   |(go_at_call 29;refine(f.out _).mono ?_;rintro e l ⟨rfl,b⟩;have d:=Lib.hid b;clear b;obtain⟨m,n⟩:=i.out _ d.out)
   |(go_at_call 36;refine(q.out _).mono ?_;rintro e t ⟨rfl,j⟩;have r:=Lib.hid (aa d.out j);clear j))
  go_ret2
  rw[g.out];exact⟨rfl,cQ r.out⟩
theorem sG (L:Int) (c:Bool) (w:World):Calls Tryz.prog 16 #[.int .i64 L,.bool c] w (Lt w (AX L c).1 (AX L c).2.1 (AX L c).2.2):=by
 have f:=eV w L c;have g:Hid (∀W,Calls Tryz.prog 29 #[cn L c] W λe w'=>e= .returned (.bool (fM L c))/\Below W.heap.size W w'):=λW=>fO L c W;cases a:fM L c with
 |false=>
  have i:Hid (AX L c=(0,0,14)):=by show _=_;unfold AX;rw[a];rfl
  rw[a]at g;clear a;go_enter Tryz.func16,Tryz.ntmps16;go_wp2_with(go_at_call 29;refine(g.out _).mono ?_;rintro e r ⟨rfl,d⟩;have b:=Lib.hid d;clear d;obtain⟨j,l⟩:=f.out _ b.out)
  go_ret3
  rw[i.out];exact⟨rfl,cQ b.out⟩
 |true=>
  obtain⟨k,rfl,y,m,s⟩:=nH a;have i:Hid (AX k c=(((aB k:Nat):Int),((bH k c:Nat):Int),0)):=by show _=_;unfold AX;rw[a];simp
  have v:Hid (∀W,Calls Tryz.prog 33 #[cn k c] W λe w'=>e= .returned (.int .i64 ((aB k:Nat):Int))/\Below W.heap.size W w'):=λW=>l8 k c W m;have x:Hid (∀W,Calls Tryz.prog 44 #[cn k c] W λe w'=>e= .returned (.int .i64 ((bH k c:Nat):Int))/\Below W.heap.size W w'):=λW=>sC k c W m;rw[a]at g;clear a s;go_enter Tryz.func16,Tryz.ntmps16;go_wp2_with(go_at_call 29;refine(g.out _).mono ?_;rintro e r ⟨rfl,d⟩;have b:=Lib.hid d;clear d;obtain⟨j,l⟩:=f.out _ b.out)
  clear j l;refine yO (af (w.alloc (bL k c))) [1,3,0,2,4,0,5,6,7] (ai b.out) ?_
  repeat refine zO f.out ?_
  refine zZ ?_;refine(v.out _).mono ?_;rintro e t ⟨rfl,n⟩;have o:Hid (af (w.alloc (bL k c)) t):=aa (ai b.out) n;clear n;refine⟨_,rfl,o.out,jO ?_⟩;refine zZ ?_;refine(x.out _).mono ?_;rintro e u ⟨rfl,p⟩;have q:Hid (af (w.alloc (bL k c)) u):=aa o.out p;clear p;refine⟨_,rfl,q.out,jO ?_⟩
  repeat refine zO f.out ?_
  refine ag ?_;go_wp2;go_ret3
  rw[i.out];exact⟨rfl,cQ q.out⟩
theorem Hq (L:Int) (c:Bool) (w:World):Calls Tryz.prog 47 #[.int .i64 L,.bool c] w λe w'=>e= .returned (.bool (fM L c))/\w'=w:=by
 by_cases b:1<=L
 ·by_cases d:L<=4
  ·go_enter Tryz.func47,Tryz.ntmps47;go_wp2
   all_goals(go_ret;exact⟨aK (by unfold fM;cases c<;>by_cases a:L<=32<;>simp[b,d,a]<;>omega),rfl⟩)
  ·by_cases a:L<=32
   ·go_enter Tryz.func47,Tryz.ntmps47;go_wp2
    all_goals(go_ret;exact⟨aK (by unfold fM;cases c<;>simp[b,d,a]<;>omega),rfl⟩)
   ·go_enter Tryz.func47,Tryz.ntmps47;go_wp2
    all_goals(go_ret;exact⟨aK (by unfold fM;cases c<;>simp[b,d,a]<;>omega),rfl⟩)
 ·go_enter Tryz.func47,Tryz.ntmps47;go_wp2
  all_goals(go_ret;exact⟨aK (by unfold fM;simp;omega),rfl⟩)
def jz (s p par first:Nat) (l:List Nat) (w:World) (e:Ending) (w':World):Prop:=Below w.heap.size w w'/\
 ((∃v V a,fE s p par first l (some v)/\e= .returned (.tuple #[.agg #[V,a],.int .i64 0])/\aq w' V (zl v)/\aq w' a (zl (bP l v)))\/(fE s p par first l none/\e= .returned (.tuple #[.agg #[aH,aH],.int .i64 17])))
theorem aq.gp {W:World} {x:Value} {xs:List Int} (b:aq W x xs) (p:Addr) {A:Option Addr} {n c:Nat} (f:W.cell? p=some (.slice A n c)) (u:Value):aq (W.setCell p u) x xs:=by
 obtain⟨B,d,rfl,g,i,k⟩:=b;refine⟨B,d,rfl,g,i,λhn=>?_⟩;obtain⟨l,e,hl,hc⟩:=k hn;refine⟨l,e,by simpa using hl,λj a=>?_⟩;rw[World.cell?_setCell_other W _ _ u (λe2=>?_)]
 ·exact hc j a
 ·have:=hc j a;rw[<-e2,f]at this;injection this with this;cases this
def jq (w v:List Nat) (i:Nat):List Nat:=(List.range i).filter λi=>decide (w.getD i 0≠v.getD i 0)
theorem GV {w v:List Nat} {i:Nat} (h:w.getD i 0≠v.getD i 0):jq w v (i+1)=jq w v i++[i]:=by
 unfold jq;rw[List.range_succ,List.filter_append,List.filter_cons,if_pos (by simpa using h)];rfl
theorem Jq {w v:List Nat} {i:Nat} (h:w.getD i 0=v.getD i 0):jq w v (i+1)=jq w v i:=by
 unfold jq;rw[List.range_succ,List.filter_append,List.filter_cons,if_neg (by simpa using h)];simp
theorem CE (C S P par first:Nat) (l:List Nat) (n:Nat) (A:Option Addr) (z:Nat) (w:World) (h:dF C S P par first) (hn:n=l.length) (hl:aj S l) (f4:par<n) (b6:n<=S-1) (T:RD w A (zl l)):
 Calls Tryz.prog 66 #[cf C S P par first,.slice A n z,.slice none 0 0] w (jz S P par first l w):=by
 obtain⟨dy,d0,eh,el,em⟩:=info_parts bZ;have J:=Lib.hid h;obtain⟨s3,f5⟩:=h.s3;have gN:=h.p1;have a4:=gT w C S P par first
 have dv:Hid (Below w.heap.size w (w.alloc (eT C S P par first))):=(Below.refl _ _).alloc (Nat.le_refl _) _;have E:1<=n:=oO;have g0:n<=4095:=oO;obtain⟨B,rfl,a2,ac⟩:=T (by rw[ak];omega);have d1:=Lib.hid T;have io:=Lib.hid a2;have a5:=Lib.hid hl;have p:=Lib.hid hn;have bi:=Lib.hid b6;have dx:Hid (∀W,Calls Tryz.prog 113 #[cf C S P par first,.int .i64 n] W λe w'=>e= .returned (.bool true)/\Below W.heap.size W w'):=λW=>yk C S P par first n W oO oO
 have f3:Hid (∀W,af w W->Calls Tryz.prog 112 #[cf C S P par first,.slice (some B) n z] W λe w'=>e= .returned (.bool true)/\Below W.heap.size W w'):=λW j=>qG C S P par first l n (some B) z W h hn hl oO (T.below j)
 obtain⟨U,V,X,Y,Z⟩:=a4.out _ (Below.refl _ _);clear h hl T a2 ac hn b6;go_enter Tryz.func66,Tryz.ntmps66
 go_wp2_with(first
  |(go_at_call 112;refine(f3.out _ (dv.out.alloc oS _)).mono ?_;rintro e f6 ⟨rfl,O⟩;have t:=Lib.hid O;clear O U V X Y Z;obtain⟨U,V,X,Y,Z⟩:=a4.out _ (aa (ax _ _) t.out))
  |(go_at_call 113;refine(dx.out _).mono ?_;rintro e a ⟨rfl,q⟩;have s:=Lib.hid (aa t.out q);clear q U V X Y Z))
 refine wp_loop_rounds 1 ?_;rw[rounds_succ];go_wp2_with(go_at_call 113;refine(dx.out _).mono ?_;rintro e a ⟨rfl,q⟩;have s:=Lib.hid (aa t.out q);clear q U V X Y Z)
 have a3:Hid (af a a.drew):=ai (Below.refl _ _);have Q:Hid (af w a):=aa (ah dv.out _) s.out;have ad:Hid (∀W,af a W->RD W (some B) (zl l)):=λW j=>d1.out.below (aa Q.out j);have en:Hid (∀W,af a W->W.cell? ⟨w.heap.size,0,none⟩=some (.int .i64 C)/\W.cell? ⟨w.heap.size,1,none⟩=some (.int .i64 S)/\W.cell? ⟨w.heap.size,2,none⟩=some (.int .i64 P)/\W.cell? ⟨w.heap.size,3,none⟩=some (.int .i64 par)/\W.cell? ⟨w.heap.size,4,none⟩=some (.int .i64 first)):=λW j=>a4.out _ (aa (aa (ax _ _) s.out) j);have F:n<=100000:=oO;have a6:=a3.out.size;refine jT (S:=af a) (.br [(false,0),(false,1),(false,3),(false,4),(false,6),(false,7)] [2,8] (λk=>if k=2 then .br [] [5,8] (λk=>if k=5 then .last [(true,8),(false,9),(true,10),(false,11)]else .last [(true,5),(false,9),(true,10),(false,11)])else .last [(true,2),(true,5),(false,9),(true,10),(false,11)])) (Mg a C S P par first n l (some B) z w.heap.size) oK oK a3.out ?_ ?_
 ·simp only[wpTree,attachW,List.getElem?_cons_zero,List.getElem?_cons_succ]
  repeat refine zO en.out ?_
  refine ag ?_;intro k K;simp only[List.mem_cons,List.not_mem_nil,or_false]at K;rcases K with rfl|rfl
  ·simp only[reduceIte,Nat.reduceEqDiff,wpTree,attachW,List.getElem?_cons_zero,List.getElem?_cons_succ];refine zZ ?_;refine(rG C S P _ J.out.vf).mono ?_;rintro e b7 ⟨D,bl,rfl,bo,O,g1,g2⟩;have t:Hid (af a b7):=aa a3.out O;have a7:=O.size;have f7:=bo.1;have f8:=bo.2.1
   have cp:=Lib.hid bo;refine⟨_,rfl,t.out,jO ?_⟩;refine ag ?_
   (try simp only[reduceIte,Nat.reduceEqDiff,wpTree,attachW,List.getElem?_cons_zero,List.getElem?_cons_succ])
   refine ag ?_;intro k K;simp only[List.mem_cons,List.not_mem_nil,or_false]at K;rcases K with rfl|rfl
   ·simp only[reduceIte,Nat.reduceEqDiff,wpTree,attachW,List.getElem?_cons_zero,List.getElem?_cons_succ];refine' qP rfl rfl (some B) n z l rfl rfl p.out E F (ad.out _ t.out) ?_;intro wb cw b8 cq g3 hc L q;have s:Hid (af a b8):=aa t.out q;have f9:=q.size;have ga:=cq.1;have eq:=Lib.hid (cp.out.below q);have Q:=Lib.hid cq;refine⟨s.out,?_⟩;simp only[yQ,yU,yX,yY];refine ag ?_
    (try simp only[reduceIte,Nat.reduceEqDiff,wpTree,attachW,List.getElem?_cons_zero,List.getElem?_cons_succ])
    refine' qJ rfl rfl n F rfl rfl ?_;intro b9 cr al;have am:Hid (af a b9):=aa s.out al;have gb:=al.size;have gc:=cr.1;have er:=Lib.hid (eq.out.below al);have es:=Lib.hid (Q.out.below al);have et:=Lib.hid cr;refine⟨am.out,?_⟩;simp only[yQ,yU,yX,yY];refine' zV rfl (λW j=>ph rfl rfl rfl rfl rfl) ?_;refine' zQ rfl (rJ rfl rfl) (ah am.out _) ?_;refine zU ?_;refine ag ?_;refine⟨b9.heap.size,wb,b8.heap.size,D,bl,cw,?_,DS.made J.out a5.out p.out E bi.out hc L am.out er.out es.out et.out ?_ ?_ ?_ ?_ oS⟩
    ·simp only[yQ,yU,yX,yY]
    all_goals omega
   ·simp only[reduceIte,Nat.reduceEqDiff,wpTree,attachW,List.getElem?_cons_zero,List.getElem?_cons_succ];refine' qJ rfl rfl n F rfl rfl ?_;intro d2 cs bq;have G:Hid (af a d2):=aa t.out bq;have gd:=bq.size;have ge:=cs.1;have ew:=Lib.hid (cp.out.below bq);have ex:=Lib.hid cs;refine⟨G.out,?_⟩;simp only[yQ,yU,yX,yY];refine ag ?_
    (try simp only[reduceIte,Nat.reduceEqDiff,wpTree,attachW,List.getElem?_cons_zero,List.getElem?_cons_succ])
    refine' qP rfl rfl (some B) n z l rfl rfl p.out E F (ad.out _ G.out) ?_;intro wb cw ca cv g4 hc L ap;have H:Hid (af a ca):=aa G.out ap;have gg:=ap.size;have gi:=cv.1;have ey:=Lib.hid (ew.out.below ap);have ez:=Lib.hid (ex.out.below ap);have e0:=Lib.hid cv;refine⟨H.out,?_⟩;simp only[yQ,yU,yX,yY];refine' zV rfl (λW j=>ph rfl rfl rfl rfl rfl) ?_;refine' zQ rfl (rJ rfl rfl) (ah H.out _) ?_;refine zU ?_;refine ag ?_;refine⟨ca.heap.size,wb,b7.heap.size,D,bl,cw,?_,DS.made J.out a5.out p.out E bi.out hc L H.out ey.out e0.out ez.out ?_ ?_ ?_ ?_ oS⟩
    ·simp only[yQ,yU,yX,yY]
    all_goals omega
  ·simp only[reduceIte,Nat.reduceEqDiff,wpTree,attachW,List.getElem?_cons_zero,List.getElem?_cons_succ];refine' qJ rfl rfl n F rfl rfl ?_;intro d3 cx cy;have c2:Hid (af a d3):=aa a3.out cy;have go:=cy.size;have gq:=cx.1;have e9:=Lib.hid cx;refine⟨c2.out,?_⟩;simp only[yQ,yU,yX,yY];refine ag ?_
   (try simp only[reduceIte,Nat.reduceEqDiff,wpTree,attachW,List.getElem?_cons_zero,List.getElem?_cons_succ])
   refine zZ ?_;refine(rG C S P _ J.out.vf).mono ?_;rintro e d4 ⟨D,bl,rfl,bs,bt,g5,g6⟩;have bv:Hid (af a d4):=aa c2.out bt;have gs:=bt.size;have gt:=bs.1;have gv:=bs.2.1
   have fb:=Lib.hid (e9.out.below bt);have fc:=Lib.hid bs;refine⟨_,rfl,bv.out,jO ?_⟩;refine' qP rfl rfl (some B) n z l rfl rfl p.out E F (ad.out _ bv.out) ?_;intro wb cw cb c3 g7 hc L av;have bx:Hid (af a cb):=aa bv.out av;have gx:=av.size;have gy:=c3.1;have fd:=Lib.hid (fb.out.below av);have fn:=Lib.hid (fc.out.below av);have fo:=Lib.hid c3;refine⟨bx.out,?_⟩;simp only[yQ,yU,yX,yY];refine' zV rfl (λW j=>ph rfl rfl rfl rfl rfl) ?_;refine' zQ rfl (rJ rfl rfl) (ah bx.out _) ?_;refine zU ?_;refine ag ?_;refine⟨cb.heap.size,wb,a.drew.heap.size,D,bl,cw,?_,DS.made J.out a5.out p.out E bi.out hc L bx.out fn.out fo.out fd.out ?_ ?_ ?_ ?_ oS⟩
   ·simp only[yQ,yU,yX,yY]
   all_goals omega
 ·rintro a' a8 ⟨db,wb,eb,D,bl,cw,rfl,c4⟩;have c5:=Lib.hid c4;clear c4;simp only[yQ,yU,yX,yY];have a0:Hid (∀W,Below a.heap.size a W->ae W (w.heap.size+1) #[aH,aH] 98):=by
   show∀W,_;intro W j;have a9:ae ((w.alloc (eT C S P par first)).alloc (.cells #[aH,aH] 98)) (w.heap.size+1) #[aH,aH] 98:=ae.new _ _ _ _ oS;exact(a9.below s.out).below j
  have g8:Hid (w.heap.size+1<a.heap.size):=by show _<_;have:=s.out.size;simp at this;omega
  have am:Hid (af a a8):=c5.out.B;go_wp2;refine wp_loop_rounds 1 ?_;rw[rounds_succ];go_wp2_with(go_at_call 120;refine(KB _ l _ c5.out).mono ?_;rintro e m ⟨b,rfl,r,ce,hb,d5,d6,d7,d8,c,bz,c6⟩;subst hb;have cg:=Lib.hid ce;have b1:=Lib.hid bz;have G:Hid (af a m):=bz.B;have c7:=Lib.hid c6;clear ce bz c6;have ab:=Lib.hid (a0.out _ G.out);have c0:m.cell? ⟨w.heap.size+1,0,none⟩=some aH:=ab.out.cell 0 _ rfl;have c1:m.cell? ⟨w.heap.size+1,1,none⟩=some aH:=ab.out.cell 1 _ rfl;have bb:m.frozen? ⟨w.heap.size+1,0,none⟩=false:=frozen_of_row _ _ _ _ _ ab.out;have bd:m.frozen? ⟨w.heap.size+1,1,none⟩=false:=frozen_of_row _ _ _ _ _ ab.out;rcases r with _|v)
  ·have b2:Hid (Below w.heap.size w m):=aa Q.out G.out;refine bodyPost_ret (v:= .tuple #[.agg #[aH,aH],.int .i64 17]) (by simp[results,Tryz.results66,go_sem,c0,c1]) rfl ⟨(b2.out.setCell oS _).setCell oS _,.inr ⟨cg.out,rfl⟩⟩
  ·obtain rfl:c=v:=c7.out v rfl;have fr:Hid (a8.heap.size<=m.heap.size):=b1.out.sz;have ch:=Lib.hid b1.out.hw;clear c7 c0 c1 bb bd a0;have a0:Hid (∀W,Below a.heap.size a W->ae W (w.heap.size+1) #[aH,aH] 98):=by
    show∀W,_;intro W j;have a9:ae ((w.alloc (eT C S P par first)).alloc (.cells #[aH,aH] 98)) (w.heap.size+1) #[aH,aH] 98:=ae.new _ _ _ _ oS;exact(a9.below s.out).below j
   go_loopw [13,87] (λd9 be wr=>∃i f:Nat,i<=n/\f<=i/\be= .int .i64 i/\Hid (f=(jq l c i).length)/\Hid (DS ⟨a.heap.size,a8.heap.size,a,db,wb,eb,D,bl,C,S,P,par,first,n,cw,λ_=>True⟩ wr d5 d6 d7 d8 c)/\Hid (wr.ownsRow m.heap.size 3 1 d9 f ((jq l c i).map vN))/\Hid (m.heap.size<=wr.heap.size)) (λ_ be _=>n-(intOf be).toNat)
   case atStart=>exact⟨0,0,Nat.zero_le _,Nat.le_refl _,rfl,rfl,b1,World.ownsRow_nil _ _ _ _,Nat.le_refl _⟩
   case round=>
    obtain⟨i,f,g9,ib,rfl,ci,o,M,b3⟩:=hrel;obtain⟨ck,cc,rfl⟩:=cd M.out;by_cases c8:i<n
    ·have c9:wr.cell? ⟨db,9,none⟩=some (.slice (some ⟨wb,0,none⟩) n cw):=o.out.R.cell 9 _ rfl;have ea:wr.cell? ⟨wb,i,none⟩=some (.int .i64 ((c.getD i 0:Nat):Int)):=(o.out.W.2 i (by have:=ch.out;show i<_;exact Nat.lt_of_lt_of_eq c8 this)).1;obtain⟨ih,e,a2,ac⟩:=ad.out wr o.out.B (by rw[ak,<-p.out];omega);cases e;have co:=ac i (by rw[ak,<-p.out];exact c8);rw[bw]at co;have bf:Hid (l.getD i 0≠c.getD i 0->jq l c (i+1)=jq l c i++[i]):=λe=>GV e;have b4:Hid (l.getD i 0=c.getD i 0->jq l c (i+1)=jq l c i):=λe=>Jq e;generalize c.getD i 0=x at*;generalize l.getD i 0=y at*;clear ac a2;by_cases di:y=x
     ·subst di;have N:=Lib.hid (b4.out rfl);have a7:((y:Int)!=(y:Int))=false:=by simp
      clear bf b4;go_wp2;go_quiet (fail)
      go_wp2;have u:af wr (wr.drewN nq):=bX (Below.refl _ _) _;exact⟨⟨i+1,f,by omega,by omega,by go_num,by rw[N.out];exact ci,o.out.below u,by rw[N.out];exact ao M.out u,Nat.le_trans b3.out u.size⟩,by simp[intOf];omega⟩
     ·have N:=Lib.hid (bf.out di);have a6:((x:Int)==(y:Int))=false:=by rw[beq_eq_false_iff_ne];omega
      have a7:((x:Int)!=(y:Int))=true:=by rw[bne,a6];rfl
      clear bf b4;go_wp2;go_quiet (fail)
      have u:af wr (wr.drewN nq):=bX (Below.refl _ _) _;have fv:=Lib.hid (o.out.below u);have dl:=Lib.hid (ao M.out u);have ds:Hid (m.heap.size<=(wr.drewN nq).heap.size):=Nat.le_trans b3.out u.size;clear u o M b3 c9 ea co a6 a7;generalize wr.drewN nq=ec at*;have ii:f<=4096:=oO;go_wp2_with(at_builtin;refine bg (f:=vN) (d:=0) qy rfl _ _ _ rfl m.heap.size 3 dy _ 8 Tryz.underlying64 d0 eh el em rfl _ f (jq l c i) rfl (dl.out.alloc _) (some ⟨ec.heap.size,0,none⟩) 1 1 [i] rfl rfl (RG.one _ _ _ _ rfl) oM oO (by have:=ds.out;simp;omega) ?_;intro gz ed b5 hg;obtain⟨gC,gD,rfl⟩:=cd b5;have fw:=Lib.hid ((fv.out.below (ax _ _)).grown hg (λg fx=>Nat.le_trans fr.out (dl.out.lt g fx).1));have fz:=Lib.hid b5;have f0:Hid (m.heap.size<=ed.heap.size):=Nat.le_trans ds.out (Nat.le_trans oS hg.size);clear b5 hg)
      exact⟨⟨i+1,f+1,by omega,by omega,by go_num,by show _=_;rw[N.out,List.length_append,<-ci.out];rfl,fw.out,by rw[N.out];exact fz.out,f0.out⟩,by simp[intOf];omega⟩
    ·obtain rfl:i=n:=oO;have H:Hid (af a wr):=o.out.B;have c9:wr.cell? ⟨db,9,none⟩=some (.slice (some ⟨wb,0,none⟩) i cw):=o.out.R.cell 9 _ rfl;have a1:=Lib.hid (a0.out _ H.out);have c0:wr.cell? ⟨w.heap.size+1,0,none⟩=some aH:=a1.out.cell 0 _ rfl;have c1:wr.cell? ⟨w.heap.size+1,1,none⟩=some aH:=a1.out.cell 1 _ rfl;have bb:wr.frozen? ⟨w.heap.size+1,0,none⟩=false:=frozen_of_row _ _ _ _ _ a1.out;have bd:wr.frozen? ⟨w.heap.size+1,1,none⟩=false:=frozen_of_row _ _ _ _ _ a1.out;have b2:Hid (Below w.heap.size w wr):=aa Q.out H.out;have f1:Hid (aq wr (.slice ck f cc) (zl (bP l c))):=by
      show aq _ _ _;have ef:=aq.vc (SG.bK (f:=vN) (d:=0) M.out);have e:jq l c i=bP l c:=by unfold jq bP;rw[p.out]
      rw[<-e];exact ef
     have f2:Hid (aq wr (.slice (some ⟨wb,0,none⟩) i cw) (zl c)):=o.out.W.ints ch.out o.out.ok.Mx o.out.ok.My;go_wp2;have e1:(wr.setCell ⟨w.heap.size+1,0,none⟩ (.slice (some ⟨wb,0,none⟩) i cw)).cell? ⟨w.heap.size+1,1,none⟩=some aH:=by rw[World.cell?_setCell_other _ _ _ _ oS];exact c1
     refine bodyPost_ret (v:= .tuple #[.agg #[.slice (some ⟨wb,0,none⟩) i cw,.slice ck f cc],.int .i64 0]) (by simp[results,Tryz.results66,go_sem,c0,c1,bb,bd]) rfl ⟨(b2.out.setCell oS _).setCell oS _,.inl ⟨c,_,_,cg.out,rfl,((f2.out.gp _ c0 _).gp _ e1 _),((f1.out.gp _ c0 _).gp _ e1 _)⟩⟩
def rcW (s p:Nat) (w P V:List Nat):Nat->List Nat
 |0=>w
 |k+1=>if V.getD k 0=0 then rcW s p w P V k else(rcW s p w P V k).set (P.getD k 0) (aM s p (w.getD (P.getD k 0) 0) (V.getD k 0))
def jc (P V:List Nat):Nat->List Nat
 |0=>[]
 |k+1=>if V.getD k 0=0 then jc P V k else jc P V k++[P.getD k 0]
theorem lN (s p:Nat) (w P V:List Nat) (k:Nat):(rcW s p w P V k).length=w.length:=by
 induction k with
 |zero=>rfl
 |succ k a=>unfold rcW;split;exact a;rw[List.length_set];exact a
theorem LC (P V:List Nat) (k:Nat):(jc P V k).length<=k:=by
 induction k with
 |zero=>exact Nat.le_refl _
 |succ k a=>unfold jc;split;omega;rw[List.length_append];simp;exact a
theorem rS {s p:Nat} {w P V:List Nat} {k i:Nat} (b:k<=P.length) (h:∀j,j<k->P.getD j 0≠i):(rcW s p w P V k).getD i 0=w.getD i 0:=by
 induction k with
 |zero=>rfl
 |succ k a=>
  have a:=a oO λj d=>h j oO;unfold rcW;split
  ·exact a
  ·rw[List.getD_eq_getElem?_getD,List.getElem?_set_ne (h k oO),<-List.getD_eq_getElem?_getD];exact a
theorem wi {P:List Nat} (l:P.Nodup) {i j:Nat} (d:i<P.length) (f:j<P.length) (e:P.getD i 0=P.getD j 0):i=j:=by
 have e2:P[i]=P[j]:=by simpa[List.getD,d,f]using e
 have g:∀a b,a<b->∀(k:a<P.length) (hb:b<P.length),P[a]≠P[b]:=λa b m k hb=>(List.pairwise_iff_getElem.1 l) a b k hb m;rcases Nat.lt_trichotomy i j with h|h|h
 ·exact absurd e2 (g _ _ h d f)
 ·exact h
 ·exact absurd e2.symm (g _ _ h f d)
section
open Fl
variable {c s p : Nat} (h : VF c s p)
include h
theorem FM {w P V:List Nat} (a:aj s w) (b:aj s V):∀k,aj s (rcW s p w P V k)
 |0=>a
 |k+1=>by
  have d:=FM (P:=P) a b k;unfold rcW;split
  ·exact d
  ·intro i;rw[List.getD_eq_getElem?_getD,List.getElem?_set];have:=h.aG;split
   ·split
    ·exact eI h (a _) (b _)
    ·show 0<s;omega
   ·rw[<-List.getD_eq_getElem?_getD];exact d i
theorem sub_eq_self {a b:Nat} (d:a<s) (hb:b<s):aM s p a b=a↔b=0:=by
 constructor
 ·intro e;have f:=gO h d hb;rw[e]at f;refine(kt h hb).1 ?_;have g:aA h a-(aA h a-aA h b)=aA h a-aA h a:=by rw[<-f]
  rw[cA,de,de,gV,jZ,<-fP,kF,bO]at g;exact g
 ·rintro rfl;exact o4 h d
theorem FR {w P V:List Nat} (f:aj s w) (d:P.Nodup) (hb:∀i∈P,i<w.length) {k j:Nat} (n:k<=P.length) (o:j<k):(rcW s p w P V k).getD (P.getD j 0) 0=aM s p (w.getD (P.getD j 0) 0) (V.getD j 0):=by
 induction k with
 |zero=>omega
 |succ k a=>
  have a:=a oO;unfold rcW
  have m:∀t,t<P.length->P.getD t 0<w.length:=λt b=>hb _ (by
   have:P.getD t 0=P[t]:=by simp[List.getD,b]
   rw[this];exact List.getElem_mem b)
  rcases Nat.lt_or_ge j k with g|g
  ·split
   ·exact a g
   ·rw[List.getD_eq_getElem?_getD,List.getElem?_set_ne (λe=>by have:=wi d oO oO e;omega),<-List.getD_eq_getElem?_getD];exact a g
  ·obtain rfl:j=k:=oO;split
   ·rename_i l
    rw[l,o4 h (f _)];exact rS oO λt b e=>by have:=wi d oO oO e;omega
   ·rw[List.getD_eq_getElem?_getD,List.getElem?_set_self (by rw[lN];exact m j oO)];rfl
theorem vL {w P V:List Nat} (b:aj s w) (d:aj s V) (f:P.Nodup) (hb:∀i∈P,i<w.length):∀k,k<=P.length->jc P V k=(P.take k).filter λi=>decide (w.getD i 0≠(rcW s p w P V P.length).getD i 0)
 |0,_=>by simp[jc]
 |k+1,j=>by
  have g:=vL b d f hb k oO;rw[ma P oO,List.filter_append,<-g];have e1:=FR h (V:=V) b f hb (k:=P.length) (Nat.le_refl _) (show k<P.length by omega);have e2:=sub_eq_self h (b (P.getD k 0)) (d k);show(if V.getD k 0=0 then jc P V k else jc P V k++[P.getD k 0])=_;by_cases a:V.getD k 0=0
  ·rw[if_pos a,List.filter_cons,if_neg (by rw[e1,e2.2 a];simp)];simp
  ·rw[if_neg a,List.filter_cons,if_pos (by rw[e1];simp only[decide_eq_true_eq];exactλe=>a (e2.1 e.symm))];simp
theorem JO {w V:List Nat} {f:Nat->Bool} (k:aj s w) (l:aj s V):
 jc ((List.range w.length).filter f) V ((List.range w.length).filter f).length=bP w (rcW s p w ((List.range w.length).filter f) V ((List.range w.length).filter f).length):=by
 have m:((List.range w.length).filter f).Nodup:=List.nodup_range.filter _;have hb:∀i∈(List.range w.length).filter f,i<w.length:=λi b=>List.mem_range.1 (List.mem_filter.1 b).1;rw[vL h (V:=V) k l m hb _ (Nat.le_refl _),List.take_length];unfold bP;rw[List.filter_filter];apply List.filter_congr;intro i b;by_cases a:f i=true
 ·simp[a]
 ·have:(rcW s p w ((List.range w.length).filter f) V ((List.range w.length).filter f).length).getD i 0=w.getD i 0:=rS (Nat.le_refl _) λj d e=>by
   have g:((List.range w.length).filter f).getD j 0∈(List.range w.length).filter f:=by
    have:((List.range w.length).filter f).getD j 0=((List.range w.length).filter f)[j]:=by simp[List.getD,d]
    rw[this];exact List.getElem_mem d
   rw[e]at g;exact a (List.mem_filter.1 g).2
  rw[this];simp[a]
theorem Kh {n i:Nat} (hn:n<=s-1) (a:i<n):bE s p (bV s p (n-1-i))=fF s p n i:=by
 refine fy h (fq h) (dD h _) ?_;rw[vM h (dD h _) (Fg h _),show aA h (fF s p n i)=_ from uM h hn a,jG];rfl
noncomputable def j1 (s p par first:Nat) (w q:List Nat):List Nat:=
 rcW s p w (dC s p w.length q) (gn s p first par (bp s p par first w) (gl s p w.length (dC s p w.length q)) (dC s p w.length q).length) (dC s p w.length q).length
theorem Bc {first par:Nat} {a xs:List Nat} {k:Nat}:aj s (gn s p first par a xs k):=fW h λi _=>aO h _ _
theorem uN {par first:Nat} {w v q:List Nat} {L:Nat} (f:aj s w) (hn:w.length<=s-1) (b:Fix s p par first w v) (hq:aj s q) (o:cG q)
 (r:iK h (co h (bp s p par first w)) par (co h q) L):(dC s p w.length q).length=L/\L=q.length-1/\2* L<=par/\j1 s p par first w q=v:=by
 have l:=mU h hn (first:=first) (err h w v);have m:(fV h w.length first (err h w v) w.length).length=(bP w v).length:=by rw[ky,j2 h f b.lt]
 have t:=b.df;obtain⟨z,k⟩:=r.end h l (λj a=>by rw[te h a,qu h f b a]) (by rw[m];exact t);have u:q.length=(bP w v).length+1:=by
  rw[<-m];refine ru h hq o (λi d=>by rw[k];exact jC _ i d) ?_;rw[k];exact xj l.x0
 have n:=Ab h f hn b hq u k;refine⟨by rw[n];omega,by omega,by omega,?_⟩;unfold j1;rw[n];have x:(bP w v).Nodup:=List.nodup_range.filter _;have y:∀i∈bP w v,i<w.length:=λi d=>(nX.1 d).1;refine cD (by rw[lN,b.ln]) λi d=>?_;rw[lN]at d;by_cases g:i∈bP w v
 ·obtain⟨j,a,rfl⟩:=List.getElem_of_mem g;have e:(bP w v)[j]=(bP w v).getD j 0:=by simp[List.getD,a]
  rw[e,FR h f x y (Nat.le_refl _) a];have e2:(gn s p first par (bp s p par first w) (gl s p w.length (bP w v)) (bP w v).length).getD j 0=wH s p first (cE s p (bp s p par first w) (e8 s p (gl s p w.length (bP w v)) (gl s p w.length (bP w v)).length) par par 0) (gl s p w.length (bP w v)) j:=by
   unfold gn;exact aQ _ _ _ a
  rw[e2];exact Jm h f hn b a
 ·rw[rS (Nat.le_refl _) λj a e=>g (by
   have:(bP w v).getD j 0=(bP w v)[j]:=by simp[List.getD,a]
   rw[<-e,this];exact List.getElem_mem a)]
  apply Classical.byContradiction;intro e;exact g (nX.2 ⟨d,e⟩)
theorem Gh {par first:Nat} {w q:List Nat} {L:Nat} (b:aj s w) (hn:w.length<=s-1) (hq:aj s q) (d:cG q) (e:iK h (co h (bp s p par first w)) par (co h q) L)
 (hc:¬((dC s p w.length q).length=L/\(dC s p w.length q).length+1=q.length/\2* (dC s p w.length q).length<=par)) (j:1<=q.length):fE s p par first w none:=
 ⟨λv a=>by
  obtain⟨f,g,i,-⟩:=uN h b hn a hq d e
  exact absurd ⟨f,by omega,by omega⟩ hc,λv a=>by cases a⟩
theorem I5 {par first:Nat} {w q:List Nat} {L:Nat} (d:aj s w) (hn:w.length<=s-1) (hq:aj s q) (e:cG q) (f:iK h (co h (bp s p par first w)) par (co h q) L)
 {j:Nat} (g:j<par) (b:fL s p first (j1 s p par first w q) j≠0):fE s p par first w none:=
 ⟨λv a=>by
  obtain⟨-,-,-,i⟩:=uN h d hn a hq e f;rw[i]at b
  exact absurd (a.cw j g) b,λv a=>by cases a⟩
theorem FQ {par first:Nat} {w q:List Nat} (a:aj s w):aj s (j1 s p par first w q):=FM h a (Bc h) _
omit h in
theorem wu {par first:Nat} {w q:List Nat}:(j1 s p par first w q).length=w.length:=lN _ _ _ _ _ _
theorem zC {par first:Nat} {w q:List Nat} (a:aj s w):jc (dC s p w.length q) (gn s p first par (bp s p par first w) (gl s p w.length (dC s p w.length q)) (dC s p w.length q).length) (dC s p w.length q).length=bP w (j1 s p par first w q):=
 JO h (f:=λi=>hornN s p (fF s p w.length i) q==0) a (Bc h)
theorem G3 {par first:Nat} {w q:List Nat} {L:Nat} (b:aj s w) (hn:w.length<=s-1) (hq:aj s q) (d:cG q) (f:iK h (co h (bp s p par first w)) par (co h q) L)
 (i:2* (dC s p w.length q).length<=par) (g:∀j,j<par->fL s p first (j1 s p par first w q) j=0):fE s p par first w (some (j1 s p par first w q)):=by
 refine⟨λv a=>by rw[(uN h b hn a hq d f).2.2.2],λv a=>?_⟩;injection a with a;subst a;refine⟨FQ h b,wu,g,?_⟩;have e:=zC h (par:=par) (first:=first) (q:=q) b;have:=LC (dC s p w.length q) (gn s p first par (bp s p par first w) (gl s p w.length (dC s p w.length q)) (dC s p w.length q).length) (dC s p w.length q).length;rw[e]at this;omega
end
theorem Ei (C S P par first m:Nat) (g xs:List Nat) (A B:Option Addr) (a5 d5:Nat) (w:World) (a6:VF C S P) (U:aj S g) (ci:aj S xs) (b5:par=g.length) (b6:m=xs.length) (ck:1<=par) (f9:par<=4096) (ga:m<=4095) (f6:first<=8000) (b7:RD w A (zl g)) (hb:RD w B (zl xs)):
 Calls Tryz.prog 174 #[aN C S P,.slice A par a5,.slice B m d5,.int .i64 first] w λe w'=>∃v,e= .returned v/\(aq w' v (zl (gn S P first par g xs m))/\Below w.heap.size w w')/\pX w v:=by
 obtain⟨ap,V⟩:∃ap,ap=w.alloc (dS C S P):=⟨_,rfl⟩;obtain⟨p,X⟩:∃p,p=ap.alloc (.cells #[.int .i64 1] 3):=⟨_,rfl⟩;obtain⟨a,bo⟩:∃a,a=w.heap.size:=⟨_,rfl⟩;obtain⟨lb,bq⟩:∃lb,lb=ap.heap.size:=⟨_,rfl⟩;have d3:lb=w.heap.size+1:=by rw[bq,V];simp
 have Y:Hid (Below w.heap.size w p):=by rw[X,V];exact ah (ax _ _) _
 have d6:Hid (an p a (jS C S P)):=by rw[X,bo,V];exact(an.new _ _ _ _ rfl).alloc _
 have ex:Hid (aq p (.slice (some ⟨lb,0,none⟩) 1 1) (zl (e8 S P xs 0))):=by
  show aq _ _ _;rw[X,bq];exact aq.lit _ [1] 3 _ 1 rfl rfl oO
 have d7:Hid (RD p A (zl g)):=b7.below Y.out;have d8:Hid (RD p B (zl xs)):=hb.below Y.out;have b:=Lib.hid a6;have ey:=Lib.hid U;have av:=Lib.hid ci;have b8:=Lib.hid b5;have a7:=Lib.hid b6;have a0:Hid (2<=S):=a6.aG;have M:Hid (∀W,af p W->W.cell? ⟨a,0,none⟩=some (.int .i64 C)/\W.cell? ⟨a,1,none⟩=some (.int .i64 S)/\W.cell? ⟨a,2,none⟩=some (.int .i64 P)):=λW f=>eA (d6.out.below f);have bs:Hid (∀W,af p W->∀q,q<m->∃l,B=some l/\(l.add q).block<W.heap.size/\W.cell? (l.add q)=some (.int .i64 ((xs.getD q 0:Nat):Int))):=by
  show∀W,_;intro W f q hq;obtain⟨l,e,O,Q⟩:=(d8.out.below f) (by rw[ak,<-a7.out];omega);refine⟨l,e,by rw[aI];exact O,?_⟩;rw[Q q (by rw[ak,<-a7.out];exact hq),bw]
 clear a6 U ci b5 b6 b7 hb;go_enter Tryz.func174,Tryz.ntmps174;go_wp2;rw[<-d3,<-bo,<-V,<-X];clear X bq d3 bo V;go_loopw [9,10] (λa8 H wr=>∃k:Nat,k<=m/\H= .int .i64 k/\Hid (aq wr a8 (zl (e8 S P xs k)))/\Hid (af p wr)) (λ_ H _=>m-(intOf H).toNat)
 case atStart=>exact⟨0,Nat.zero_le _,rfl,ex,Below.refl _ _⟩
 case round=>
  obtain⟨k,f7,rfl,a9,hB⟩:=hrel;obtain⟨s,D,rfl,-,-,co⟩:=aq.nat a9.out;have bt:=Lib.hid co;clear co;have Z:Hid ((e8 S P xs k).length=k+1):=pc _ _ _ _;have bv:Hid (aj S (e8 S P xs k)):=wX b.out _ _;rw[Z.out]at a9⊢;by_cases ez:k<m
  ·have T:Hid (xs.getD k 0<S):=av.out k;have e0:Hid (cE S P (e8 S P xs k) [1,aM S P 0 (xs.getD k 0)] (k+2) (k+1) 0=e8 S P xs (k+1)):=rfl;obtain⟨l,rfl,F,E⟩:=bs.out wr hB.out k ez;generalize e8 S P xs k=out at*;generalize xs.getD k 0=x at*;have G:Hid (∀W,af wr W->(W.cell? ⟨a,0,none⟩=some (.int .i64 C)/\W.cell? ⟨a,1,none⟩=some (.int .i64 S)/\W.cell? ⟨a,2,none⟩=some (.int .i64 P))/\W.cell? (l.add k)=some (.int .i64 (x:Int))):=λW f=>⟨M.out _ (aa hB.out f),(f.cell F).trans E⟩;have e9:IntKind.i64.wrap (((k+1:Nat):Int)+1)=((k+2:Nat):Int):=by rw[aE _ oO oO];omega
   have f2:IntKind.i64.wrap ((k:Int)+1+1)=((k+2:Nat):Int):=by rw[aE _ oO oO];omega
   clear E F;go_wp2;refine yO (af wr) [1,2,3,4,5,6,7,10,11,12,0,8,9,13,0,14] (ai (Below.refl _ _)) ?_
   repeat refine zO G.out ?_
   refine zZ ?_;refine(xD C S P x _ b.out T.out).mono ?_;rintro e r ⟨rfl,cp⟩;have bx:Hid (af wr r):=aa (ai (Below.refl _ _)) cp;have fb:Hid (aM S P 0 x<S):=eI b.out (by have:=a0.out;omega) T.out;clear cp;generalize aM S P 0 x=y at*;refine⟨_,rfl,bx.out,jO ?_⟩;refine' zQ (v:= .slice (some ⟨r.heap.size,0,none⟩) 2 2) (w':=r.alloc (.cells #[.int .i64 1,.int .i64 y] 3)) rfl (by go_simp) (ah bx.out _) ?_;have o:Hid (af wr (r.alloc (.cells #[.int .i64 1,.int .i64 (y:Int)] 3))):=ah bx.out _;have bz:Hid (RD (r.alloc (.cells #[.int .i64 1,.int .i64 (y:Int)] 3)) (some ⟨r.heap.size,0,none⟩) (zl [1,y])):=RD.lit r [1,y] 3 _ rfl;have a1:Hid (∀W,af wr W->RD W (some ⟨r.heap.size,0,none⟩) (zl [1,y])->Calls Tryz.prog 170 #[aN C S P,.slice s (k+1) D,.slice (some ⟨r.heap.size,0,none⟩) 2 2,.int .i64 ((k:Int)+2)] W λe w'=>∃v,e= .returned v/\aq w' v (zl (e8 S P xs (k+1)))/\Below W.heap.size W w'):=by
    show∀W,_;intro W f fc;have:=lz C S P (k+2) out [1,y] s (some ⟨r.heap.size,0,none⟩) (k+1) 2 D 2 W b.out bv.out (uR b.out (by have:=a0.out;omega) fb.out) Z.out.symm rfl oO oO oO oO oO oO (bt.out.below f) fc;rw[show((k+2:Nat):Int)=(k:Int)+2 from by omega,show min (k+2) (k+1+2-1)=k+2 from by omega,Z.out,e0.out]at this;exact this.mono λe w' ⟨v,O,Q,_⟩=>⟨v,O,Q⟩
   clear e9 f2;refine zZ ?_;refine(a1.out _ o.out bz.out).mono ?_;rintro e d9 ⟨v4,rfl,cq,cr⟩;have fd:=Lib.hid cq;have cs:Hid (af wr d9):=aa o.out cr;clear cq cr;refine⟨_,rfl,cs.out,jO ?_⟩
   repeat refine zO G.out ?_
   refine ag ?_;go_wp2;exact⟨⟨k+1,by omega,by go_num,fd,aa hB.out cs.out⟩,by simp[intOf];omega⟩
  ·obtain rfl:k=m:=oO;have cv:Hid (k=xs.length):=a7.out;have a1:Hid (∀W,af wr W->Calls Tryz.prog 170 #[aN C S P,.slice A par a5,.slice s (k+1) D,.int .i64 par] W λe w'=>∃v,e= .returned v/\aq w' v (zl (cE S P g (e8 S P xs xs.length) par par 0))/\Below W.heap.size W w'):=by
    show∀W,_;intro W f;have:=lz C S P par g (e8 S P xs k) A s par (k+1) a5 D W b.out ey.out bv.out b8.out Z.out.symm ck oO oO oO ck oO ((d7.out.below hB.out).below f) (bt.out.below f);rw[show min par (par+(k+1)-1)=par from by omega,<-b8.out,show e8 S P xs k=e8 S P xs xs.length from by rw[<-cv.out]]at this;exact this.mono λe w' ⟨v,O,Q,_⟩=>⟨v,O,Q⟩
   obtain⟨ea,ec,ed⟩:=M.out _ hB.out;have cx:Hid (aj S (cE S P g (e8 S P xs xs.length) par par 0)):=j7 b.out _ _ _ _ _;have cy:Hid ((cE S P g (e8 S P xs xs.length) par par 0).length=par):=eo _ _ _ _ _ _ _;have ef:Hid (gn S P first par g xs 0=[]):=rfl;have fn:Hid (∀i,gn S P first par g xs (i+1)=gn S P first par g xs i++[wH S P first (cE S P g (e8 S P xs xs.length) par par 0) xs i]):=λi=>Fc _ _ _ _ _ _ _;generalize cE S P g (e8 S P xs xs.length) par par 0=K at*;go_wp2_with(go_at_call 170;refine(a1.out _ (Below.refl _ _)).mono ?_;rintro e J ⟨f8,rfl,c2,c3⟩;obtain⟨eh,el,rfl,-,-,c4⟩:=aq.nat c2;rw[cy.out];have fo:=Lib.hid c4;have o:=Lib.hid (aa hB.out c3);clear c4 c2 c3 ea ec ed)
   clear a1 bt Z bv a9 hB;go_loopw [12,13] (λa8 H wr=>∃(i:Nat) (s:Option Addr) (D:Nat),i<=k/\H= .int .i64 i/\a8= .slice s i D/\Hid (af J wr)/\Hid (wr.ownsRow J.heap.size 3 1 (.slice s i D) i ((zl (gn S P first par g xs i)).map (Value.int .i64)))) (λ_ H _=>k-(intOf H).toNat)
   case atStart=>exact⟨0,none,0,Nat.zero_le _,rfl,rfl,Below.refl _ _,by rw[ef.out];exact World.ownsRow_nil _ _ _ _⟩
   case round=>
    obtain⟨i,s,D,gb,rfl,rfl,hB,a2⟩:=hrel;by_cases f3:i<k
    ·have T:Hid (xs.getD i 0<S):=av.out i;obtain⟨l,rfl,F,E⟩:=bs.out wr (aa o.out hB.out) i f3;have b4:Hid (_=_):=fn.out i;have c5:Hid (wH S P first K xs i=au S P (hornN S P (bE S P (xs.getD i 0)) K) (bE S P (wdN S P first xs i k))):=by show _=_;rw[cv.out];rfl
     rw[c5.out]at b4;have c6:Hid (wdN S P first xs i 0=fpowN S P (xs.getD i 0) first):=rfl;have c7:Hid (∀q,q=i->wdN S P first xs i (q+1)=wdN S P first xs i q):=λq e=>by show(if q=i then _ else _)=_;rw[if_pos e]
     have c8:Hid (∀q,q≠i->wdN S P first xs i (q+1)=au S P (wdN S P first xs i q) (aM S P 1 (au S P (xs.getD q 0) (bE S P (xs.getD i 0))))):=λq e=>by show(if q=i then _ else _)=_;rw[if_neg e]
     have b1:Hid (∀q,wdN S P first xs i q<S):=λq=>Ef b.out av.out _ _;have c9:Hid (∀W,Calls Tryz.prog 213 #[aN C S P,.int .i64 ((xs.getD i 0:Nat):Int),.int .i64 first] W λe w'=>e= .returned (.int .i64 ((wdN S P first xs i 0:Nat):Int))/\Below W.heap.size W w'):=by
      show∀W,_;intro W;rw[c6.out];exact qB C S P (xs.getD i 0) first W b.out T.out oO
     clear c5 c6;generalize fr:xs.getD i 0=x at*;have di:Hid (bE S P x<S):=fq b.out;have G:Hid (∀W,af wr W->(W.cell? ⟨a,0,none⟩=some (.int .i64 C)/\W.cell? ⟨a,1,none⟩=some (.int .i64 S)/\W.cell? ⟨a,2,none⟩=some (.int .i64 P))/\W.cell? (l.add i)=some (.int .i64 (x:Int))):=λW f=>⟨M.out _ (aa (aa o.out hB.out) f),(f.cell F).trans E⟩;clear E F fr;go_wp2;refine yO (af wr) [1,2,3,4,5,0,6,0,7] (ai (Below.refl _ _)) ?_
     repeat refine zO G.out ?_
     refine zZ ?_;refine(oF C S P x _ b.out T.out).mono ?_;rintro e bb ⟨rfl,ab⟩;have b2:Hid (af wr bb):=aa (ai (Below.refl _ _)) ab;clear ab;generalize bE S P x=y at*;refine⟨_,rfl,b2.out,jO ?_⟩
     repeat refine zO G.out ?_
     refine ag ?_;go_wp2;refine yO (af wr) [1,2,3,4,5,6,0,7,0,8] (ai b2.out) ?_
     repeat refine zO G.out ?_
     refine zZ ?_;refine(c9.out _).mono ?_;rintro e em ⟨rfl,dl⟩;have ds:Hid (af wr em):=aa (ai b2.out) dl;clear dl;refine⟨_,rfl,ds.out,jO ?_⟩
     repeat refine zO G.out ?_
     refine ag ?_;go_wp2;clear c9;obtain⟨j,rfl⟩:∃j:World,j=wr:=⟨_,rfl⟩;go_loopw [15,16] (λen bd eq=>∃q:Nat,q<=k/\bd= .int .i64 q/\en= .int .i64 ((wdN S P first xs i q:Nat):Int)/\Hid (af j eq)) (λ_ bd _=>k-(intOf bd).toNat)
     case atStart=>exact⟨0,Nat.zero_le _,rfl,rfl,ds⟩
     case round=>
      obtain⟨q,hq,rfl,rfl,L⟩:=hrel;by_cases f4:q<k
      ·by_cases a3:q=i
       ·have be:=c7.out q a3;subst a3;go_wp2;exact⟨⟨q+1,by omega,by go_num,by rw[be],L⟩,by simp[intOf];omega⟩
       ·have be:=Lib.hid (c8.out q a3);have b3:=Lib.hid (b1.out q);have fv:Hid (xs.getD q 0<S):=av.out q;obtain⟨gc,e,F,E⟩:=bs.out j (aa o.out hB.out) q f4;cases e;generalize wdN S P first xs i q=d at*
        generalize xs.getD q 0=z at*;have b9:((q:Int)==(i:Int))=false:=by rw[beq_eq_false_iff_ne];omega
        have er:((q:Int)!=(i:Int))=true:=by rw[bne,b9];rfl
        have dv:Hid (∀W,af j W->(W.cell? ⟨a,0,none⟩=some (.int .i64 C)/\W.cell? ⟨a,1,none⟩=some (.int .i64 S)/\W.cell? ⟨a,2,none⟩=some (.int .i64 P))/\W.cell? (l.add q)=some (.int .i64 (z:Int))):=λW f=>⟨M.out _ (aa (aa o.out hB.out) f),(f.cell F).trans E⟩;clear E F a3;go_wp2;clear b9 er;refine yO (af j) [1,2,3,4,5,6,7,8,9,0,10,11,12,0,13] (ai L.out) ?_
        repeat refine zO dv.out ?_
        refine zZ ?_;refine(iy C S P z y _ b.out fv.out di.out).mono ?_;rintro e es ⟨rfl,dx⟩;have ac:Hid (af j es):=aa (ai L.out) dx;have dy:Hid (au S P z y<S):=aO b.out _ _;clear dx;generalize au S P z y=bf at*;refine⟨_,rfl,ac.out,jO ?_⟩;refine zZ ?_;refine(oH C S P 1 bf _ b.out (by have:=a0.out;omega) dy.out).mono ?_;rintro e bi ⟨rfl,ad⟩;have al:Hid (af j bi):=aa ac.out ad;have fw:Hid (aM S P 1 bf<S):=eI b.out (by have:=a0.out;omega) dy.out;clear ad;generalize aM S P 1 bf=u at*;refine⟨_,rfl,al.out,jO ?_⟩;refine zZ ?_;refine(iy C S P d u _ b.out b3.out fw.out).mono ?_;rintro e t ⟨rfl,am⟩;have N:Hid (af j t):=aa al.out am;clear am;refine⟨_,rfl,N.out,jO ?_⟩
        repeat refine zO dv.out ?_
        refine ag ?_;go_wp2;exact⟨⟨q+1,by omega,by go_num,by rw[be.out],N⟩,by simp[intOf];omega⟩
      ·obtain rfl:q=k:=oO;have b3:=Lib.hid (b1.out q);generalize wdN S P first xs i q=d at*
       generalize U:zl (gn S P first par g xs i)=et at*;have f5:Hid (et++zl [au S P (hornN S P y K) (bE S P d)]=zl (gn S P first par g xs (i+1))):=by
        show _=_;rw[<-U,b4.out];unfold zl;rw[<-List.map_append]
       clear U b4 c7 c8 b1;have d0:Hid (J.heap.size<=j.heap.size):=hB.out.size;have gd:Hid (∀W,af j W->(W.cell? ⟨a,0,none⟩=some (.int .i64 C)/\W.cell? ⟨a,1,none⟩=some (.int .i64 S)/\W.cell? ⟨a,2,none⟩=some (.int .i64 P))):=λW f=>M.out _ (aa (aa o.out hB.out) f);have d1:Hid (∀W,af J W->(W.cell? ⟨a,0,none⟩=some (.int .i64 C)/\W.cell? ⟨a,1,none⟩=some (.int .i64 S)/\W.cell? ⟨a,2,none⟩=some (.int .i64 P))):=λW f=>M.out _ (aa o.out f);clear G;go_wp2;refine yO (λW=>af J W) [1,2,3,4,5,7,8,0,6,9,10,11,12,0,13] ((aa hB.out L.out).drew) ?_
       repeat refine zO d1.out ?_
       refine zZ ?_;refine(yt C S P y K par cy.out.symm eh el _ b.out di.out cx.out oO (fo.out.below (aa hB.out L.out).drew)).mono ?_;rintro e bb ⟨rfl,ab⟩;have ac:Hid (af j bb):=aa (ai L.out) ab;have fx:Hid (hornN S P y K<S):=gW b.out _ _ (ek cx.out);clear ab;generalize hornN S P y K=ca at*;refine⟨_,rfl,aa hB.out ac.out,jO ?_⟩;refine zZ ?_;refine(oF C S P d _ b.out b3.out).mono ?_;rintro e bi ⟨rfl,ad⟩;have al:Hid (af j bi):=aa ac.out ad;have fz:Hid (bE S P d<S):=fq b.out;clear ad;generalize bE S P d=cb at*;refine⟨_,rfl,aa hB.out al.out,jO ?_⟩;refine zZ ?_;refine(iy C S P ca cb _ b.out fx.out fz.out).mono ?_;rintro e t ⟨rfl,am⟩;have N:Hid (af j t):=aa al.out am;clear am;generalize au S P ca cb=val at*;refine⟨_,rfl,aa hB.out N.out,jO ?_⟩;refine' zQ (v:= .slice (some ⟨t.heap.size,0,none⟩) 1 1) (w':=t.alloc (.cells #[.int .i64 val] 3)) rfl (by go_simp) (ah (aa hB.out N.out) _) ?_;have a4:Hid (af j (t.alloc (.cells #[.int .i64 (val:Int)] 3))):=ah N.out _;have bz:Hid (RD (t.alloc (.cells #[.int .i64 (val:Int)] 3)) (some ⟨t.heap.size,0,none⟩) (zl [val])):=RD.lit t [val] 3 _ rfl;refine' j3 (ys:=zl [val]) (ao a2.out a4.out) (Nat.le_trans d0.out a4.out.size) rfl _ _ rfl rfl rfl rfl (Nat.le_refl _) bz.out oO ?_;intro ce cg ch d4 hg f0;have f1:Hid (ch.ownsRow J.heap.size 3 1 (.slice ce (i+1) cg) (i+1) ((zl (gn S P first par g xs (i+1))).map (Value.int .i64))):=by
        show World.ownsRow _ _ _ _ _ _ _;rw[<-f5.out];exact d4
       have d2:Hid (af J ch):=(aa hB.out a4.out).grown hg (Nat.le_trans d0.out a4.out.size) (λq hq=>(a2.out.lt q hq).1);clear d4 hg f0;refine⟨d2.out,?_⟩;simp only[yQ,yU,yX,yY]
       repeat refine zO d1.out ?_
       refine ag ?_;go_wp2;exact⟨⟨i+1,ce,cg,by omega,by go_num,rfl,d2,f1⟩,by simp[intOf];omega⟩
    ·obtain rfl:i=k:=oO;go_wp2;go_ret;refine⟨.slice s i D,rfl,⟨aq.bK a2.out,Y.out.trans ((aa o.out hB.out).mono Y.out.size)⟩,λl n c e=>?_⟩;have ew:=(a2.out.lt l.block (by injection e with e1;rw[e1];rfl)).1;exact Nat.le_trans Y.out.size (Nat.le_trans o.out.size ew)
end
end Go.Proofs.YtmnlkganmgcpbaaGreatDoor
