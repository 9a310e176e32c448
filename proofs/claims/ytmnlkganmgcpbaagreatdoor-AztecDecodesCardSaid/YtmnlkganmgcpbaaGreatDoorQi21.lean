import Derived.Test.YtmnlkganmgcpbaaGreatDoorQi20
set_option maxRecDepth 100000
set_option maxHeartbeats 4000000
set_option linter.unusedVariables false
set_option linter.unusedSectionVars false
set_option linter.unusedSimpArgs false
set_option linter.defProp false
open Go.Value renaming int->I,bool->VB
open Go.IntKind renaming i64->J
open Bool renaming false->R,true->wP
open Option renaming none->U,some->gk,map_some->UM
open Go renaming World->wR,Calls->wS,info_parts->CB,madeCells->C2,wp_loop_rounds->Wb
open Go.Proofs.Tryz renaming prog->w1,underlying64->z1,underlying26->HE,ntmps47->W9
open Go.RowKit renaming Hid->w2
open Go.RowKit.Below renaming refl->w3
open Nat renaming le_refl->w5,zero_le->x1,le_trans->x3,lt_or_ge->z6,mul_le_mul->Cq,add_mul->Vh,one_mul->VC
open List renaming getElem?_cons_zero->w7,getElem?_cons_succ->w8,length_append->w9,getD->x4,range->y3,length_take->Ai,not_mem_nil->Ay,getD_eq_getElem?_getD->B2,getElem_mem->C4,range_succ->Hx,take_length->S3,getElem?_set_ne->Ui,filter_append->UQ,filter_cons->VK
open Go.Proofs.Tryz
namespace Go.Proofs.YtmnlkganmgcpbaaGreatDoor
section
open Go.RowKit
theorem xD (A:Option Addr) (m c:Nat) (b:List Bool) (v n:Nat) (w:wR) (g:v<=1000000000000) (hn:n<=62) (S:m<=1000) (hb:SR vB R w A m c b):
 wS w1 59 #[.slice A m c,I J v,I J n] w (RT vB R w (b++bH v n,0)):=by
 obtain⟨t,x,F,G,H⟩:=CB fF;obtain⟨N,T⟩:∃N,m+n=N:=⟨_,rfl⟩;have X:(m:Int)+(n:Int)=(N:Int):=oO;have o:m<=N:=oO;have Y:N<=1062:=oO;have Z:∀W:wR,(Instr.makeSlice 26 (I J (m:Int)) (I J (N:Int))).run w1 W= .ok (.slice (gk ⟨W.heap.size,0,U⟩) m N) (W.alloc (.cells (C2 #[VB R] N) 4)):=λW=>by
  have h:=run_make (P:=w1) W 26 4 t (.bool R) HE x F .i64 .i64 (m:Int) (N:Int) oO oO (by rw[H];omega) oO;rw[G,Nat.mul_one]at h;simp only[Int.toNat_natCast]at h;exact h
 have z:=aa hb;have d:w2 (m=b.length):=hb.hn;have K:w2 (∀i:wR,i.heap[w.heap.size]?=gk (.cells (splice (C2 #[VB R] N).toList 0 (b.map vB)).toArray 4 (0,0))->i.ownsRow w.heap.size 4 1 (.slice (gk ⟨w.heap.size,0,U⟩) m N) b.length (b.map vB)):=by
  show∀_,_;intro i f;have hl:(C2 #[VB R] N).toList.length=N:=by simp[C2]
  have L:(splice (C2 #[VB R] N).toList 0 (b.map vB)).length=N:=by rw[length_splice _ _ _ (by rw[hl,List.length_map,<-d.out];omega),hl]
  refine⟨by simp,.inr ⟨w.heap.size,N,_,by rw[d.out],w5 _,f,by rw[<-d.out];exact o,by unfold maxLen;omega,by simpa using L,?_⟩⟩;simp[splice,List.take_append]
 have B:w2 (∀W,af w W->0<(b.map vB).length->∃j,A=gk j/\∀a v,(b.map vB)[a]?=gk v->W.cell? (j.add a)=gk v):=by
  show∀W,_;intro W C k;obtain⟨j,e,D,f⟩:=z.out.rd (by simpa using k);refine⟨j,e,λa v g=>?_⟩;rw[C.cell (by rw[aD];exact D)];have l:a<b.length:=by
   rcases z6 a b.length with h|h
   ·exact h
   ·rw[List.getElem?_eq_none (by simpa using h)]at g;cases g
  rw[f a l];simpa[x4,l]using g
 have ab:m<=1048576-n:=oO;have M:w2 (b.length<=100000000):=by show _<=_;rw[<-d.out];omega
 clear hb;go_enter func59,ntmps59
 go_wp2_with(first
  |((with_reducible show wpList _ _ _ (⟨_,Op.call ⟨Callee.builtin Builtin.copy,_,_⟩,_,_,_,_⟩::_) _ _);(refine wpList_copy_splice rfl _ _ 26 26 rfl 4 HE KD _ A m N m c rfl rfl w.heap.size 0 (C2 #[VB R] N).toList 4 (heap_alloc_new _ _) (b.map vB) (by rw[List.length_map,<-d.out];exact(Nat.min_self m).symm) (λk=>⟨rfl,B.out _ (ax _ _) k⟩) (by simp[C2];rw[<-d.out];exact o) (λu E=>by obtain⟨y,_,rfl⟩:=List.mem_map.1 E;rfl) w.heap.size w (ax _ _) (w5 _) ?_);intro i f p;have O:=aa (K.out i f.out);have q:=aa p;clear f p)
  |(go_at_call 108;refine(pF w.heap.size b _ v n _ g hn M.out q.out.size O.out).mono ?_;rintro e V ⟨u3,rfl,r,s⟩;have P:=aa r;have Q:=aa s;clear r s))
 go_ret2
 exact RT.mk rfl (SG.bL P.out) (q.out.trans Q.out)
def aW (b:List Bool) (s m:Nat):List Nat:=(y3 m).map λa=>ba b (a* s) s
theorem ej (b:List Bool) (s m:Nat):(aW b s m).length=m:=by unfold aW;simp
theorem xm (b:List Bool) (s m:Nat):aW b s (m+1)=aW b s m++[ba b (m* s) s]:=by unfold aW;rw[Hx,List.map_append];rfl
theorem mQ (b:List Bool) (s m:Nat):ak (2^s) (aW b s m):=λa=>by
 have c:1<=2^s:=Nat.one_le_two_pow;rcases z6 a m with h|h
 ·unfold aW;rw[bC _ _ _ h];exact eS _ _ _
 ·rw[kP (by rw[ej];exact h)];omega
theorem SR.piece {b:Type} {f:b->Value} {d:b} {w:wR} {i:Addr} {n c:Nat} {g:List b} (h:SR f d w (gk i) n c g) (a k e:Nat) (l:a+k<=n) (hc:k<=e) (j:e<=c):SR f d w (gk (i.add a)) k e ((g.drop a).take k):=by
 have hn:=h.hn;refine⟨by rw[Ai,List.length_drop];omega,hc,x3 j h.hm,?_⟩;exact(h.rd.drop a).take k
theorem kB (b:List Bool) (a k:Nat):ba ((b.drop a).take k) 0 k=ba b a k:=by
 rw[Bw _ _ _ _ oO,BD,Nat.add_zero]
theorem k6 {c:Program} {d:Array Oper} {e:List Oper} {b:Oper} {a:Act} {Q:Exit->Act->wR->Prop} {w:wR} {v:Value} (j:Region.wanted b (yielded d a.tmps)=wP) (f:(execOp a.eval b).run c w= .ok (.value v) w) (g:wpList c d Q e (a.put b.dst v) w):wpList c d Q (b::e) a w:=by
 refine wpList_step λK i=>?_;simp only[j,if_true];unfold Oper.wp;rw[f];exact i _ _ g
theorem rG {a:Act} {e:Oper} {W:wR} {x f g:Operand} (j:e.op= .slice 26 x (gk f) (gk g) U) {b:Addr} {n c:Nat} (l:a.eval x= .slice (gk b) n c) {kl i:Int} (o:a.eval f=I J kl) (p:a.eval g=I J i) (k m:Nat) (q:kl=(k:Int)) (r:i=(m:Int)) (t:k<=m) (u:m<=c) (hc:k<c):
 (execOp a.eval e).run w1 W= .ok (.value (.slice (gk (b.add k)) (m-k) (c-k))) W:=by
 subst q r;have d:=run_slice_lh (P:=w1) W 26 (gk b) n c tX .i64 .i64 (k:Int) (m:Int) oO oO oO;rw[yL]at d;simp only[Result.andThen_ok,sliced,Int.toNat_natCast,Nat.mul_one,UM]at d;rw[if_neg oO]at d;have s:=run_sliceAt_slice (P:=w1) W 26 (.slice (gk b) n c) (gk (I J (k:Int))) (gk (I J (m:Int))) U tX;unfold execOp;simp only[j,l,o,p,UM,Option.map_none,Sem.run_bind,Sem.run_pure,Result.andThen_ok,s,d]
theorem BQ (A:Option Addr) (n c at_ m:Nat) (b:List Bool) (w:wR) (v:1<=m) (i:m<=40) (f:at_+m<=n) (hn:n<=1048576) (hb:SR vB R w A n c b):
 wS w1 67 #[.slice A n c,I J at_,I J m] w (λe d=>e= .returned (.tuple #[I J ((ba b at_ m:Nat):Int),I J 0])/\d=w):=by
 have j:w2 (n=b.length):=hb.hn;obtain⟨k,rfl,-,-⟩:=hb.rd (by rw[<-j.out];omega);obtain⟨E,l⟩:∃E,at_+m=E:=⟨_,rfl⟩;have x:(at_:Int)+(m:Int)=(E:Int):=oO;obtain⟨a,o⟩:∃a,a=n-at_:=⟨_,rfl⟩;have y:(n:Int)-(at_:Int)=(a:Int):=oO;have p:=hb.hc;have q:w2 (E<=c):=by show _<=_;omega
 have r:w2 (at_<=E):=by show _<=_;omega
 have s:w2 (at_<c):=by show _<_;omega
 have t:w2 (E-at_=m):=by show _=_;omega
 have z:decide (a<m)=R:=by simp;omega
 have B:at_<=n:=oO;have u:w2 (wS w1 109 #[.slice (gk (k.add at_)) m (c-at_)] w λe d=>e= .returned (I J ((ba b at_ m:Nat):Int))/\d=w):=by
  show wS _ _ _ _ _;rw[<-kB];exact ud _ m _ _ w i (hb.piece at_ m _ f oO oO)
 clear hb o f p l;go_enter func67,ntmps67
 go_wp2_with(first
  |((with_reducible show wpList _ _ _ (⟨_,Op.slice 26 _ _ _ _,_,_,_,_⟩::_) _ _);refine k6 rfl (rG rfl rfl rfl rfl at_ E rfl rfl r.out q.out s.out) ?_;rw[t.out])
  |(go_at_call 109;refine u.out.mono ?_;rintro e d ⟨rfl,g⟩;rw[g];clear g))
 go_ret2
 exact⟨rfl,rfl⟩
theorem tT (A:Option Addr) (n c s m:Nat) (b:List Bool) (w:wR) (ab:1<=s) (hs:s<=12) (k:n=m* s) (hn:n<=100000) (hb:SR vB R w A n c b):
 wS w1 60 #[.slice A n c,I J s,.bool R] w (RT vN 0 w (aW b s m,0)):=by
 obtain⟨v,y,G,H,K⟩:=CB cT;have i:=aa hb;have l:=aa k;have ac:m<=n:=by rw[k];exact Nat.le_mul_of_pos_right m oO
 clear hb k;go_enter func60,ntmps60;go_wp2;go_loopw [8,9] (λz o wr=>∃d a:Nat,d<=m/\a<=n/\o=I J a/\w2 (a=d* s)/\w2 (OG vN 3 w wr z (aW b s d))) (λ_ o _=>n-(intOf o).toNat)
 case atStart=>exact⟨0,0,x1 _,x1 _,rfl,by show _=_;rw[Nat.zero_mul],OG.start _ _⟩
 case round=>
  obtain⟨d,a,ad,al,rfl,g,f⟩:=hrel;by_cases am:a<n
  ·have ap:d<m:=by
    apply Classical.byContradiction;intro h;have:d=m:=oO;have j:=g.out;rw[this,<-l.out]at j;omega
   obtain⟨E,p⟩:∃E,E=a+s:=⟨_,rfl⟩;have L:E<=n:=by
    have j:=g.out;have X:=l.out;have B:(d+1)* s<=m* s:=Nat.mul_le_mul_right s oO;rw[Vh,VC]at B;omega
   have av:(a:Int)+(s:Int)=(E:Int):=oO;have a0:min (E:Int) (n:Int)=(E:Int):=oO;have M:=aa (i.out.below f.out.B);have N:=i.out.hc;obtain⟨C,rfl,-,-⟩:=i.out.rd (by rw[<-i.out.hn];omega);have O:w2 (a<=E):=by show _<=_;omega
   have P:w2 (E<=c):=by show _<=_;omega
   have Q:w2 (a<c):=by show _<_;omega
   have S:w2 (E-a=s):=by show _=_;omega
   have T:w2 (E=(d+1)* s):=by show _=_;rw[p,g.out,Vh,VC]
   have V:w2 (wS w1 109 #[.slice (gk (C.add a)) s (c-a)] wr λe q=>e= .returned (I J ((ba b a s:Nat):Int))/\q=wr):=by
    show wS _ _ _ _ _;rw[<-kB];exact ud _ s _ _ wr oO (M.out.piece a s _ oO oO oO)
   have W:w2 (aW b s (d+1)=aW b s d++[ba b a s]):=by show _=_;rw[xm,g.out]
   have r:w2 ((aW b s d).length<=100000):=by show _<=_;rw[ej];omega
   generalize ba b a s=x at*;have has:a+s<=100012:=oO;clear N p
   go_wp2_with(first
    |((with_reducible show wpList _ _ _ (⟨_,Op.slice 26 _ _ _ _,_,_,_,_⟩::_) _ _);refine k6 rfl (rG rfl rfl rfl rfl a E rfl rfl O.out P.out Q.out) ?_;rw[S.out])
    |(go_at_call 109;refine V.out.mono ?_;rintro e q ⟨rfl,t⟩;rw[t];clear t))
   refine Wb 1 ?_;rw[rounds_succ];go_wp2_with(at_builtin;refine aY (f:=vN) (d:=0) uf rfl _ _ _ rfl w.heap.size 3 v _ 8 z1 y G H K rfl _ (aW b s d).length (aW b s d) rfl (aq f.out.O (ax _ _)) (gk ⟨wr.heap.size,0,U⟩) 1 1 [x] rfl rfl (RG.one _ _ _ _ rfl) (by have:=r.out;unfold maxLen;omega) (by have:=r.out;omega) (by have:=f.out.B.size;simp;omega) ?_;intro Y Z u hg;have D:=aa (f.out.grow (ax _ _) u hg);clear u hg)
   exact⟨⟨d+1,E,by omega,L,by go_num,T,by show OG _ _ _ _ _ _;rw[W.out];exact D.out⟩,by simp[intOf];omega⟩
  ·obtain rfl:a=n:=oO;have F:w2 (aW b s d=aW b s m):=by
    show _=_;have j:d* s=m* s:=by rw[<-g.out,l.out]
    have:d=m:=Nat.eq_of_mul_eq_mul_right oO j;rw[this]
   go_wp2;go_ret2
   exact RT.mk rfl (by rw[<-F.out];exact f.out.sg) f.out.B
def bE (a:List Nat) (s:Nat):List Bool:=a.flatMap λv=>bH v s
theorem dQ (a:List Nat) (s:Nat):(bE a s).length=a.length* s:=by
 induction a with
 |nil=>simp[bE]
 |cons v a b=>
  show(bH v s++bE a s).length=_;rw[w9,cn,b,List.length_cons,Vh,VC,Nat.add_comm]
theorem Ka (a:List Nat) (v s:Nat):bE (a++[v]) s=bE a s++bH v s:=by simp[bE]
theorem zD (a:List Nat) (s:Nat) {b:Nat} (c:b<a.length):bE (a.take (b+1)) s=bE (a.take b) s++bH (a.getD b 0) s:=by
 rw[oy a c,Ka]
theorem pI (A:Option Addr) (n c s:Nat) (b:List Nat) (w:wR) (W:1<=s) (hs:s<=12) (hn:n<=8000) (hl:ak (2^s) b) (hb:SR vN 0 w A n c b):
 wS w1 63 #[.slice A n c,I J s] w (RT vB R w (bE b s,0)):=by
 obtain⟨t,u,D,E,F⟩:=CB fF;have v:=aa hb;have d:w2 (n=b.length):=hb.hn;have y:=aa hl;obtain⟨N,f⟩:∃N,N=n* s:=⟨_,rfl⟩;have X:N<=96000:=by rw[f];exact Cq hn hs
 have Y:(n:Int)* (s:Int)=(N:Int):=by rw[f];simp
 have hq:decide ((1048576:Int)/(s:Int)<(n:Int))=R:=by
  have z:(8000:Int)<=1048576/(s:Int):=Int.le_ediv_of_mul_le oO oO;simp;omega
 clear hb hl f;go_enter func63,ntmps63;go_wp2_with(at_make;refine wpList_make_own _ rfl _ _ _ rfl w.heap.size 4 t _ 1 HE u D E .i64 .i64 _ N rfl rfl (by first|rfl|omega) (by rw[F];omega) oM (w5 _) ?_;intro B r hg;have G:=aa r;have H:w2 (af w B):=(w3 _ _).grown hg (w5 _) (λq hq=>by cases hq);clear r hg)
 go_loopw [6,27] (λC g wr=>∃a:Nat,a<=n/\g=I J a/\w2 (af w wr)/\w2 (wr.ownsRow w.heap.size 4 1 C (bE (b.take a) s).length ((bE (b.take a) s).map vB))) (λ_ g _=>n-(intOf g).toNat)
 case atStart=>exact⟨0,x1 _,rfl,H.out,G.out⟩
 case round=>
  obtain⟨a,Z,rfl,hB,j⟩:=hrel;by_cases l:a<n
  ·obtain⟨Q,rfl,P,m⟩:=(v.out.below hB.out).rd (by rw[<-d.out];omega);have S:=m a (by rw[<-d.out];exact l);have k:w2 (b.getD a 0<2^s):=y.out a;have i:w2 (bE (b.take (a+1)) s=bE (b.take a) s++bH (b.getD a 0) s):=zD b s (by rw[<-d.out];exact l);have K:w2 ((bE (b.take a) s).length<=100000000):=by
    show _<=_;rw[dQ,Ai];have:min a b.length* s<=8000* 12:=Cq oO hs;omega
   generalize b.getD a 0=x at*;have L:x<=1000000000000:=by have z:=k.out;have T:=oc hs;omega
   have ab:(x:Int)/2^s=0:=by
    have e:(x:Int)/2^s=((x/2^s:Nat):Int):=by simp
    rw[e,Nat.div_eq_of_lt k.out];rfl
   clear m P;go_wp2_with(go_at_call 108;refine(pF w.heap.size (bE (b.take a) s) _ x s _ L oO K.out hB.out.size j.out).mono ?_;rintro e V ⟨u3,rfl,o,p⟩;have M:=aa o;have O:=aa p;clear o p)
   exact⟨⟨a+1,by omega,by go_num,hB.out.trans O.out,by rw[i.out];exact M.out⟩,by simp[intOf];omega⟩
  ·obtain rfl:n=a:=oO;have i:w2 (b.take n=b):=by show _=_;rw[d.out,S3]
   go_wp2;go_ret2
   exact RT.mk rfl (by have h:=j.out;rw[i.out]at h;exact SG.bL h) hB.out
def eH (L:Int) (c:Bool):Bool:=decide (1<=L)&&(decide (L<=4)||(decide (L<=32)&&!c))
def aE (L:Nat) (c:Bool):Nat:=if c=wP then 11+4* L else 14+4* L
def aB (L:Nat) (c:Bool):Nat:=if c=wP then aE L c else aE L c+1+2* ((aE L c/2-1)/15)
def gX (L:Nat) (c:Bool):Nat:=if c=wP then(88+16* L)* L else(112+16* L)* L
def aw (L:Nat):Nat:=if L<=2 then 6 else if L<=8 then 8 else if L<=22 then 10 else 12
def aJ (L:Nat) (c:Bool):Nat:=gX L c/aw L
theorem kh {L:Int} {c:Bool} (h:eH L c=wP):∃k:Nat,L=(k:Int)/\1<=k/\k<=32/\(c=wP->k<=4):=by
 unfold eH at h;simp only[Bool.and_eq_true,Bool.or_eq_true,decide_eq_true_eq,Bool.not_eq_true']at h;refine⟨L.toNat,by omega,by omega,by omega,λe=>?_⟩;rcases h.2 with a|a
 ·omega
 ·rw[e]at a;cases a.2
theorem LD {k:Nat} {c:Bool} (b:1<=k) (d:k<=32) (a:c=wP->k<=4):eH (k:Int) c=wP:=by
 unfold eH;cases c with
 |true=>have:=a rfl;simp;omega
 |false=>simp;omega
theorem jc {L:Nat} {c:Bool} (h:L<=32):11<=aE L c/\aE L c<=142:=by unfold aE;split<;>omega
theorem eI {L:Nat} {c:Bool} (h:L<=32):11<=aB L c/\aB L c<=161:=by
 have:=jc (c:=c) h;unfold aB;split<;>omega
theorem room_le {L:Nat} {c:Bool} (h:L<=32):gX L c<=20000:=by
 unfold gX;split
 ·exact x3 (Cq (show 88+16* L<=600 by omega) h) oO
 ·exact x3 (Cq (show 112+16* L<=624 by omega) h) oO
theorem gF (L:Nat):aw L=6\/aw L=8\/aw L=10\/aw L=12:=by unfold aw;(repeat' split)<;>simp
theorem oU {L:Nat} {c:Bool} (h:L<=32):aJ L c<=4000:=by
 unfold aJ;have b:=room_le (c:=c) h;have a:=gF L;rcases a with e|e|e|e<;>rw[e]<;>omega
abbrev bX (L:Int) (c:Bool):Value:= .agg #[I J L,.bool c]
abbrev cN (L:Int) (c:Bool):Obj:= .cells #[I J L,.bool c] 60
theorem fI (w:wR) (L:Int) (c:Bool):w2 (∀W,af (w.alloc (cN L c)) W->W.cell? ⟨w.heap.size,0,U⟩=gk (I J L)/\W.cell? ⟨w.heap.size,1,U⟩=gk (.bool c)):=by
 show∀W,_;intro W b;have h:an (w.alloc (cN L c)) w.heap.size [I J L,.bool c]:=an.new _ _ _ _ rfl;have a:=h.below b;exact⟨a.2 0 oS,a.2 1 oS⟩
theorem iR (L:Int) (c:Bool) (w:wR):wS w1 29 #[bX L c] w (au (.bool (eH L c)) w):=by
 have hB:w2 (af w (w.alloc (cN L c))):=ax _ _;by_cases d:1<=L
 ·cases c with
  |true=>
   go_enter func29,ntmps29;go_wp2
   all_goals(go_ret;exact⟨bh (by unfold eH;by_cases a:L<=4<;>by_cases b:L<=32<;>simp[d,a,b]<;>omega),hB.out⟩)
  |false=>
   go_enter func29,ntmps29;go_wp2
   all_goals(go_ret;exact⟨bh (by unfold eH;by_cases a:L<=4<;>by_cases b:L<=32<;>simp[d,a,b]<;>omega),hB.out⟩)
 ·go_enter func29,ntmps29;go_wp2
  all_goals(go_ret;exact⟨bh (by unfold eH;simp;omega),hB.out⟩)
theorem tf (L:Nat) (c:Bool) (w:wR) (h:L<=32):wS w1 85 #[bX L c] w (au (I J ((aE L c:Nat):Int)) w):=by
 have hB:w2 (af w (w.alloc (cN L c))):=ax _ _;cases c with
 |true=>
  go_enter func85,ntmps85;go_wp2;go_ret;exact⟨bM (by unfold aE;simp),hB.out⟩
 |false=>
  go_enter func85,ntmps85;go_wp2;go_ret;exact⟨bM (by unfold aE;simp),hB.out⟩
theorem oR (L:Nat) (c:Bool) (w:wR) (h:L<=32):wS w1 36 #[bX L c] w (au (I J ((aB L c:Nat):Int)) w):=by
 have d:=fI w L c;have l:=aa (jc (c:=c) h);have f:w2 (aB L c=if c=wP then aE L c else aE L c+1+2* ((aE L c/2-1)/15)):=rfl;have g:w2 (∀W,wS w1 85 #[bX L c] W (au (I J ((aE L c:Nat):Int)) W)):=λW=>tf L c W h;generalize aE L c=B at*;obtain⟨m,n⟩:=l.out;cases c with
 |true=>
  go_enter func36,ntmps36;go_wp2_with(go_at_call 85;refine(g.out _).mono ?_;rintro e i ⟨rfl,a⟩;have b:=aa a;clear a;obtain⟨j,k⟩:=d.out _ b.out)
  go_ret;exact⟨bM (by rw[f.out];simp),dT b.out⟩
 |false=>
  go_enter func36,ntmps36;go_wp2_with(go_at_call 85;refine(g.out _).mono ?_;rintro e i ⟨rfl,a⟩;have b:=aa a;clear a;obtain⟨j,k⟩:=d.out _ b.out)
  go_ret;exact⟨bM (by rw[f.out];simp;omega),dT b.out⟩
theorem yz (L:Nat) (c:Bool) (w:wR) (h:L<=32):wS w1 89 #[bX L c] w (au (I J ((gX L c:Nat):Int)) w):=by
 have hB:w2 (af w (w.alloc (cN L c))):=ax _ _;have a:=aa (room_le (c:=c) h);have b:w2 (gX L c=if c=wP then(88+16* L)* L else(112+16* L)* L):=rfl;generalize gX L c=cK at*;cases c with
 |true=>
  have d:(88+16* (L:Int))* (L:Int)=(cK:Int):=by rw[b.out];simp
  have e:=a.out;go_enter func89,ntmps89;go_wp2;go_ret;exact⟨rfl,hB.out⟩
 |false=>
  have d:(112+16* (L:Int))* (L:Int)=(cK:Int):=by rw[b.out];simp
  have e:=a.out;go_enter func89,ntmps89;go_wp2;go_ret;exact⟨rfl,hB.out⟩
theorem mK (L:Nat) (c:Bool) (w:wR) (h:L<=32):wS w1 33 #[bX L c] w (au (I J ((aw L:Nat):Int)) w):=by
 have hB:w2 (af w (w.alloc (cN L c))):=ax _ _;go_enter func33,ntmps33;go_wp2
 all_goals(go_ret;exact⟨bM (by unfold aw;(repeat' split)<;>first|rfl|omega),hB.out⟩)
theorem pk (L:Nat) (c:Bool) (w:wR) (h:L<=32):wS w1 44 #[bX L c] w (au (I J ((aJ L c:Nat):Int)) w):=by
 have a:=fI w L c;have m:w2 (∀W,wS w1 89 #[bX L c] W (au (I J ((gX L c:Nat):Int)) W)):=λW=>yz L c W h;have n:w2 (∀W,wS w1 33 #[bX L c] W (au (I J ((aw L:Nat):Int)) W)):=λW=>mK L c W h;have o:=aa (room_le (c:=c) h);have p:=aa (gF L);have i:w2 (aJ L c=gX L c/aw L):=rfl;obtain⟨q,r⟩:=a.out _ (w3 _ _);generalize gX L c=cK at*;generalize aw L=s at*;have u:s≠0:=by rcases p.out with e|e|e|e<;>omega
 have v:(0:Int)<(s:Int):=oO;have x:¬((s:Int)=0):=oO;have y:0<s:=oO;have t:=o.out;go_enter func44,ntmps44;go_wp2;refine yO (af (w.alloc (cN L c))) [1,3,0,2,4,0,5,6] (ai (w3 _ _)) ?_
 repeat refine zO a.out ?_
 refine zZ ?_;refine(m.out _).mono ?_;rintro e j ⟨rfl,b⟩;have d:w2 (af (w.alloc (cN L c)) j):=ae (ai (w3 _ _)) b;clear b;refine⟨_,rfl,d.out,jO ?_⟩;refine zZ ?_;refine(n.out _).mono ?_;rintro e k ⟨rfl,f⟩;have g:w2 (af (w.alloc (cN L c)) k):=ae d.out f;clear f;refine⟨_,rfl,g.out,jO ?_⟩;have l:w2 ((cK:Int)/(s:Int)=((aJ L c:Nat):Int)):=by show _=_;rw[i.out];simp
 have hq:=l.out;have z:J.wrap ((aJ L c:Nat):Int)=((aJ L c:Nat):Int):=aG _ oO (by have:=oU (c:=c) h;omega)
 repeat refine zO a.out ?_
 refine aj ?_;go_wp2;go_ret;exact⟨rfl,dT g.out⟩
def T6 (w:wR) (a b:Int) (e:Ending) (c:wR):Prop:=e= .returned (.tuple #[I J a,I J b])/\af w c
def Fh (w:wR) (a b c:Int) (e:Ending) (d:wR):Prop:=e= .returned (.tuple #[I J a,I J b,I J c])/\af w d
def wC (L:Int) (c:Bool):Int×Int:=if eH L c=wP then(((aB L.toNat c:Nat):Int),0)else(0,14)
def qt (L:Int) (c:Bool):Int×Int×Int:=if eH L c=wP then(((aw L.toNat:Nat):Int),((aJ L.toNat c:Nat):Int),0)else(0,0,14)
theorem xU (L:Int) (c:Bool) (w:wR):wS w1 13 #[I J L,.bool c] w (T6 w (wC L c).1 (wC L c).2):=by
 have i:=fI w L c;have f:w2 (∀W,wS w1 29 #[bX L c] W (au (.bool (eH L c)) W)):=λW=>iR L c W;cases a:eH L c with
 |false=>
  have g:w2 (wC L c=(0,14)):=by show _=_;unfold wC;rw[a];rfl
  rw[a]at f;clear a;go_enter func13,ntmps13;go_wp2_with(go_at_call 29;refine(f.out _).mono ?_;rintro e l ⟨rfl,b⟩;have d:=aa b;clear b;obtain⟨m,n⟩:=i.out _ d.out)
  go_ret2
  rw[g.out];exact⟨rfl,dT d.out⟩
 |true=>
  obtain⟨k,rfl,s,o,p⟩:=kh a;have g:w2 (wC k c=(((aB k c:Nat):Int),0)):=by show _=_;unfold wC;rw[a];simp
  have q:w2 (∀W,wS w1 36 #[bX k c] W (au (I J ((aB k c:Nat):Int)) W)):=λW=>oR k c W o;rw[a]at f;clear a p;go_enter func13,ntmps13
  go_wp2_with(first
   |(go_at_call 29;refine(f.out _).mono ?_;rintro e l ⟨rfl,b⟩;have d:=aa b;clear b;obtain⟨m,n⟩:=i.out _ d.out)
   |(go_at_call 36;refine(q.out _).mono ?_;rintro e t ⟨rfl,j⟩;have r:=aa (ae d.out j);clear j))
  go_ret2
  rw[g.out];exact⟨rfl,dT r.out⟩
theorem uL (L:Int) (c:Bool) (w:wR):wS w1 16 #[I J L,.bool c] w (Fh w (qt L c).1 (qt L c).2.1 (qt L c).2.2):=by
 have f:=fI w L c;have g:w2 (∀W,wS w1 29 #[bX L c] W (au (.bool (eH L c)) W)):=λW=>iR L c W;cases a:eH L c with
 |false=>
  have i:w2 (qt L c=(0,0,14)):=by show _=_;unfold qt;rw[a];rfl
  rw[a]at g;clear a;go_enter func16,ntmps16;go_wp2_with(go_at_call 29;refine(g.out _).mono ?_;rintro e r ⟨rfl,d⟩;have b:=aa d;clear d;obtain⟨j,l⟩:=f.out _ b.out)
  go_ret3
  rw[i.out];exact⟨rfl,dT b.out⟩
 |true=>
  obtain⟨k,rfl,y,m,s⟩:=kh a;have i:w2 (qt k c=(((aw k:Nat):Int),((aJ k c:Nat):Int),0)):=by show _=_;unfold qt;rw[a];simp
  have v:w2 (∀W,wS w1 33 #[bX k c] W (au (I J ((aw k:Nat):Int)) W)):=λW=>mK k c W m;have x:w2 (∀W,wS w1 44 #[bX k c] W (au (I J ((aJ k c:Nat):Int)) W)):=λW=>pk k c W m;rw[a]at g;clear a s;go_enter func16,ntmps16;go_wp2_with(go_at_call 29;refine(g.out _).mono ?_;rintro e r ⟨rfl,d⟩;have b:=aa d;clear d;obtain⟨j,l⟩:=f.out _ b.out)
  clear j l;refine yO (af (w.alloc (cN k c))) [1,3,0,2,4,0,5,6,7] (ai b.out) ?_
  repeat refine zO f.out ?_
  refine zZ ?_;refine(v.out _).mono ?_;rintro e t ⟨rfl,n⟩;have o:w2 (af (w.alloc (cN k c)) t):=ae (ai b.out) n;clear n;refine⟨_,rfl,o.out,jO ?_⟩;refine zZ ?_;refine(x.out _).mono ?_;rintro e u ⟨rfl,p⟩;have q:w2 (af (w.alloc (cN k c)) u):=ae o.out p;clear p;refine⟨_,rfl,q.out,jO ?_⟩
  repeat refine zO f.out ?_
  refine aj ?_;go_wp2;go_ret3
  rw[i.out];exact⟨rfl,dT q.out⟩
theorem vL (L:Int) (c:Bool) (w:wR):wS w1 47 #[I J L,.bool c] w λe f=>e= .returned (.bool (eH L c))/\f=w:=by
 by_cases b:1<=L
 ·by_cases d:L<=4
  ·go_enter func47,W9;go_wp2
   all_goals(go_ret;exact⟨bh (by unfold eH;cases c<;>by_cases a:L<=32<;>simp[b,d,a]<;>omega),rfl⟩)
  ·by_cases a:L<=32
   ·go_enter func47,W9;go_wp2
    all_goals(go_ret;exact⟨bh (by unfold eH;cases c<;>simp[b,d,a]<;>omega),rfl⟩)
   ·go_enter func47,W9;go_wp2
    all_goals(go_ret;exact⟨bh (by unfold eH;cases c<;>simp[b,d,a]<;>omega),rfl⟩)
 ·go_enter func47,W9;go_wp2
  all_goals(go_ret;exact⟨bh (by unfold eH;simp;omega),rfl⟩)
theorem vY (L:Nat) (c:Bool) (w:wR) (h:L<=32):wS w1 98 #[I J L,.bool c] w λe a=>e= .returned (I J ((aE L c:Nat):Int))/\a=w:=by
 cases c with
 |true=>
  go_enter func98,ntmps98;go_wp2;go_ret;exact⟨bM (by unfold aE;simp),rfl⟩
 |false=>
  go_enter func98,ntmps98;go_wp2;go_ret;exact⟨bM (by unfold aE;simp),rfl⟩
theorem pz (L:Nat) (c:Bool) (w:wR) (h:L<=32):wS w1 48 #[I J L,.bool c] w λe b=>e= .returned (I J ((aB L c:Nat):Int))/\b=w:=by
 have i:=aa (jc (c:=c) h);have d:w2 (aB L c=if c=wP then aE L c else aE L c+1+2* ((aE L c/2-1)/15)):=rfl;have f:w2 (∀W,wS w1 98 #[I J L,.bool c] W λe b=>e= .returned (I J ((aE L c:Nat):Int))/\b=W):=λW=>vY L c W h;generalize aE L c=B at*;obtain⟨j,k⟩:=i.out;cases c with
 |true=>
  go_enter func48,ntmps48;go_wp2_with(go_at_call 98;refine(f.out _).mono ?_;rintro e g ⟨rfl,a⟩;rw[a];clear a)
  go_ret;exact⟨bM (by rw[d.out];simp),rfl⟩
 |false=>
  go_enter func48,ntmps48;go_wp2_with(go_at_call 98;refine(f.out _).mono ?_;rintro e g ⟨rfl,a⟩;rw[a];clear a)
  go_ret;exact⟨bM (by rw[d.out];simp;omega),rfl⟩
theorem Lh (L:Nat) (w:wR) (h:L<=32):wS w1 49 #[I J L] w λe a=>e= .returned (I J ((aw L:Nat):Int))/\a=w:=by
 go_enter func49,ntmps49;go_wp2
 all_goals(go_ret;exact⟨bM (by unfold aw;(repeat' split)<;>first|rfl|omega),rfl⟩)
theorem JG (L:Nat) (c:Bool) (w:wR) (h:L<=32):wS w1 50 #[I J L,.bool c] w λe d=>e= .returned (I J ((gX L c:Nat):Int))/\d=w:=by
 have a:=aa (room_le (c:=c) h);have b:w2 (gX L c=if c=wP then(88+16* L)* L else(112+16* L)* L):=rfl;generalize gX L c=cK at*;cases c with
 |true=>
  have f:(88+16* (L:Int))* (L:Int)=(cK:Int):=by rw[b.out];simp
  have g:=a.out;go_enter func50,ntmps50;go_wp2;go_ret;exact⟨rfl,rfl⟩
 |false=>
  have f:(112+16* (L:Int))* (L:Int)=(cK:Int):=by rw[b.out];simp
  have g:=a.out;go_enter func50,ntmps50;go_wp2;go_ret;exact⟨rfl,rfl⟩
theorem CO (L:Int) (c:Bool) (w:wR):wS w1 18 #[I J L,.bool c] w (Fh w (qt L c).1 (qt L c).2.1 (qt L c).2.2):=by
 have g:w2 (∀W,wS w1 47 #[I J L,.bool c] W λe d=>e= .returned (.bool (eH L c))/\d=W):=λW=>vL L c W;cases b:eH L c with
 |false=>
  have i:w2 (qt L c=(0,0,14)):=by show _=_;unfold qt;rw[b];rfl
  rw[b]at g;clear b;go_enter func18,ntmps18;go_wp2_with(go_at_call 47;refine(g.out _).mono ?_;rintro e j ⟨rfl,a⟩;rw[a];clear a)
  go_ret3
  rw[i.out];exact⟨rfl,w3 _ _⟩
 |true=>
  obtain⟨k,rfl,t,f,m⟩:=kh b;have i:w2 (qt k c=(((aw k:Nat):Int),((aJ k c:Nat):Int),0)):=by show _=_;unfold qt;rw[b];simp
  have o:w2 (∀W,wS w1 49 #[I J k] W λe d=>e= .returned (I J ((aw k:Nat):Int))/\d=W):=λW=>Lh k W f;have p:w2 (∀W,wS w1 50 #[I J k,.bool c] W λe d=>e= .returned (I J ((gX k c:Nat):Int))/\d=W):=λW=>JG k c W f;have q:=aa (room_le (c:=c) f);have r:=aa (gF k);have n:w2 (aJ k c=gX k c/aw k):=rfl;generalize gX k c=cK at*;generalize aw k=s at*;have x:s≠0:=by rcases r.out with e|e|e|e<;>omega
  have y:(0:Int)<(s:Int):=oO;have z:¬((s:Int)=0):=oO;have A:0<s:=oO;have u:=q.out;have hq:(cK:Int)/(s:Int)=((aJ k c:Nat):Int):=by rw[n.out];simp
  have B:J.wrap ((aJ k c:Nat):Int)=((aJ k c:Nat):Int):=aG _ oO (by have:=oU (c:=c) f;omega);rw[b]at g;clear b m;have l:w2 (∀W,af w W->True):=λ_ _=>trivial;go_enter func18,ntmps18
  go_wp2_with(first
   |(go_at_call 47;refine(g.out _).mono ?_;rintro e j ⟨rfl,a⟩;rw[a];clear a)
   |(go_at_call 49;refine(o.out _).mono ?_;rintro e j ⟨rfl,a⟩;rw[a];clear a))
  refine yO (af w) [1,2,3,5,0,4,0,6,7,8,9] (ai (w3 _ _)) ?_
  repeat refine zO l.out ?_
  refine zZ ?_;refine(p.out _).mono ?_;rintro e v ⟨rfl,rfl⟩;refine⟨_,rfl,(ai (w3 _ _)),jO ?_⟩
  repeat refine zO l.out ?_
  refine aj ?_;go_wp2;go_ret3
  rw[i.out];exact⟨rfl,ai (w3 _ _)⟩
def gf (s c f first:Nat) (a:List Nat) (w:wR) (e:Ending) (b:wR):Prop:=af w b/\
 ((∃v V d,ei s c f first a (gk v)/\e= .returned (.tuple #[.agg #[V,d],I J 0])/\az b V (zl v)/\az b d (zl (cf a v)))\/(ei s c f first a U/\e= .returned (.tuple #[.agg #[aS,aS],I J 17])))
theorem az.iJ {W:wR} {x:Value} {f:List Int} (i:az W x f) (a:Addr) {A:Option Addr} {n c:Nat} (j:W.cell? a=gk (.slice A n c)) (u:Value):az (W.setCell a u) x f:=by
 obtain⟨B,d,rfl,k,l,m⟩:=i;refine⟨B,d,rfl,k,l,λhn=>?_⟩;obtain⟨o,e,hl,hc⟩:=m hn;refine⟨o,e,by simpa using hl,λb g=>?_⟩;rw[World.cell?_setCell_other W _ _ u (λe2=>?_)]
 ·exact hc b g
 ·have:=hc b g;rw[<-e2,j]at this;injection this with this;cases this
def kH (w v:List Nat) (a:Nat):List Nat:=(y3 a).filter λa=>decide (w.getD a 0≠v.getD a 0)
theorem L0 {w v:List Nat} {a:Nat} (h:w.getD a 0≠v.getD a 0):kH w v (a+1)=kH w v a++[a]:=by
 unfold kH;rw[Hx,UQ,VK,if_pos (by simpa using h)];rfl
theorem OQ {w v:List Nat} {a:Nat} (h:w.getD a 0=v.getD a 0):kH w v (a+1)=kH w v a:=by
 unfold kH;rw[Hx,UQ,VK,if_neg (by simpa using h)];simp
theorem xx (j S g l first:Nat) (c:List Nat) (n:Nat) (A:Option Addr) (u:Nat) (w:wR) (h:eD j S g l first) (hn:n=c.length) (hl:ak S c) (fw:l<n) (b6:n<=S-1) (Q:RD w A (zl c)):
 wS w1 66 #[bZ j S g l first,.slice A n u,.slice U 0 0] w (gf S g l first c w):=by
 obtain⟨dl,dn,d9,ea,ec⟩:=CB cT;have H:=aa h;obtain⟨s3,fx⟩:=h.s3;have gx:=h.p1;have a4:=kE w j S g l first
 have da:w2 (af w (w.alloc (iB j S g l first))):=(w3 _ _).alloc (w5 _) _;have D:1<=n:=oO;have gy:n<=4095:=oO;obtain⟨z,rfl,a2,ac⟩:=Q (by rw[ao];omega);have ds:=aa Q;have g7:=aa a2;have a5:=aa hl;have p:=aa hn;have bi:=aa b6;have dd:w2 (∀W,wS w1 113 #[bZ j S g l first,I J n] W (au (.bool wP) W)):=λW=>BY j S g l first n W oO oO
 have fv:w2 (∀W,af w W->wS w1 112 #[bZ j S g l first,.slice (gk z) n u] W (au (.bool wP) W)):=λW m=>tV j S g l first c n (gk z) u W h hn hl oO (Q.below m)
 obtain⟨T,V,X,Y,Z⟩:=a4.out _ (w3 _ _);clear h hl Q a2 ac hn b6;go_enter func66,ntmps66
 go_wp2_with(first
  |(go_at_call 112;refine(fv.out _ (da.out.alloc oS _)).mono ?_;rintro e fz ⟨rfl,O⟩;have s:=aa O;clear O T V X Y Z;obtain⟨T,V,X,Y,Z⟩:=a4.out _ (ae (ax _ _) s.out))
  |(go_at_call 113;refine(dd.out _).mono ?_;rintro e i ⟨rfl,q⟩;have r:=aa (ae s.out q);clear q T V X Y Z))
 refine Wb 1 ?_;rw[rounds_succ];go_wp2_with(go_at_call 113;refine(dd.out _).mono ?_;rintro e i ⟨rfl,q⟩;have r:=aa (ae s.out q);clear q T V X Y Z)
 have a3:w2 (af i i.drew):=ai (w3 _ _);have P:=aa (ae (ah da.out _) r.out);have ad:w2 (∀W,af i W->RD W (gk z) (zl c)):=λW m=>ds.out.below (ae P.out m);have ed:w2 (∀W,af i W->W.cell? ⟨w.heap.size,0,U⟩=gk (I J j)/\W.cell? ⟨w.heap.size,1,U⟩=gk (I J S)/\W.cell? ⟨w.heap.size,2,U⟩=gk (I J g)/\W.cell? ⟨w.heap.size,3,U⟩=gk (I J l)/\W.cell? ⟨w.heap.size,4,U⟩=gk (I J first)):=λW m=>a4.out _ (ae (ae (ax _ _) r.out) m);have E:n<=100000:=oO;have a6:=a3.out.size;refine j8 (S:=af i) (.br [(R,0),(R,1),(R,3),(R,4),(R,6),(R,7)] [2,8] (λk=>if k=2 then .br [] [5,8] (λk=>if k=5 then .last [(wP,8),(R,9),(wP,10),(R,11)]else .last [(wP,5),(R,9),(wP,10),(R,11)])else .last [(wP,2),(wP,5),(R,9),(wP,10),(R,11)])) (Td i j S g l first n c (gk z) u w.heap.size) oK oK a3.out ?_ ?_
 ·simp only[aT,aH,w7,w8]
  repeat refine zO ed.out ?_
  refine aj ?_;intro k K;simp only[List.mem_cons,Ay,or_false]at K;rcases K with rfl|rfl
  ·simp only[reduceIte,Nat.reduceEqDiff,aT,aH,w7,w8];refine zZ ?_;refine(vD j S g _ H.out.vf).mono ?_;rintro e dv ⟨C,bl,rfl,bo,O,gz,gC⟩;have s:=aa (ae a3.out O);have a7:=O.size;have fG:=bo.1;have f0:=bo.2.1
   have ci:=aa bo;refine⟨_,rfl,s.out,jO ?_⟩;refine aj ?_
   (try simp only[reduceIte,Nat.reduceEqDiff,aT,aH,w7,w8])
   refine aj ?_;intro k K;simp only[List.mem_cons,Ay,or_false]at K;rcases K with rfl|rfl
   ·simp only[reduceIte,Nat.reduceEqDiff,aT,aH,w7,w8];refine' uc rfl rfl (gk z) n u c rfl rfl p.out D E (ad.out _ s.out) ?_;intro wb cw dx ck gD hc L q;have r:=aa (ae s.out q);have f1:=q.size;have f2:=ck.1;have ef:=aa (ci.out.below q);have P:=aa ck;refine⟨r.out,?_⟩;simp only[yQ,yU,yX,yY];refine aj ?_
    (try simp only[reduceIte,Nat.reduceEqDiff,aT,aH,w7,w8])
    refine' tw rfl rfl n E rfl rfl ?_;intro dy co al;have am:=aa (ae r.out al);have f3:=al.size;have f4:=co.1;have eh:=aa (ef.out.below al);have ek:=aa (P.out.below al);have el:=aa co;refine⟨am.out,?_⟩;simp only[yQ,yU,yX,yY];refine' zV rfl (λW m=>rM rfl rfl rfl rfl rfl) ?_;refine' zQ rfl (vz rfl rfl) (ah am.out _) ?_;refine zU ?_;refine aj ?_;refine⟨dy.heap.size,wb,dx.heap.size,C,bl,cw,?_,DS.made H.out a5.out p.out D bi.out hc L am.out eh.out ek.out el.out ?_ ?_ ?_ ?_ oS⟩
    ·simp only[yQ,yU,yX,yY]
    all_goals omega
   ·simp only[reduceIte,Nat.reduceEqDiff,aT,aH,w7,w8];refine' tw rfl rfl n E rfl rfl ?_;intro f5 cp bq;have F:=aa (ae s.out bq);have f6:=bq.size;have f7:=cp.1;have em:=aa (ci.out.below bq);have en:=aa cp;refine⟨F.out,?_⟩;simp only[yQ,yU,yX,yY];refine aj ?_
    (try simp only[reduceIte,Nat.reduceEqDiff,aT,aH,w7,w8])
    refine' uc rfl rfl (gk z) n u c rfl rfl p.out D E (ad.out _ F.out) ?_;intro wb cw dz cq gN hc L ap;have G:=aa (ae F.out ap);have f8:=ap.size;have f9:=cq.1;have eq:=aa (em.out.below ap);have er:=aa (en.out.below ap);have es:=aa cq;refine⟨G.out,?_⟩;simp only[yQ,yU,yX,yY];refine' zV rfl (λW m=>rM rfl rfl rfl rfl rfl) ?_;refine' zQ rfl (vz rfl rfl) (ah G.out _) ?_;refine zU ?_;refine aj ?_;refine⟨dz.heap.size,wb,dv.heap.size,C,bl,cw,?_,DS.made H.out a5.out p.out D bi.out hc L G.out eq.out es.out er.out ?_ ?_ ?_ ?_ oS⟩
    ·simp only[yQ,yU,yX,yY]
    all_goals omega
  ·simp only[reduceIte,Nat.reduceEqDiff,aT,aH,w7,w8];refine' tw rfl rfl n E rfl rfl ?_;intro gb cr cs;have cv:=aa (ae a3.out cs);have gc:=cs.size;have ge:=cr.1;have et:=aa cr;refine⟨cv.out,?_⟩;simp only[yQ,yU,yX,yY];refine aj ?_
   (try simp only[reduceIte,Nat.reduceEqDiff,aT,aH,w7,w8])
   refine zZ ?_;refine(vD j S g _ H.out.vf).mono ?_;rintro e gg ⟨C,bl,rfl,bs,bt,gY,g0⟩;have bv:=aa (ae cv.out bt);have gi:=bt.size;have gm:=bs.1;have go:=bs.2.1
   have ew:=aa (et.out.below bt);have ex:=aa bs;refine⟨_,rfl,bv.out,jO ?_⟩;refine' uc rfl rfl (gk z) n u c rfl rfl p.out D E (ad.out _ bv.out) ?_;intro wb cw dE cx g1 hc L av;have bx:=aa (ae bv.out av);have gp:=av.size;have gq:=cx.1;have ey:=aa (ew.out.below av);have ez:=aa (ex.out.below av);have eA:=aa cx;refine⟨bx.out,?_⟩;simp only[yQ,yU,yX,yY];refine' zV rfl (λW m=>rM rfl rfl rfl rfl rfl) ?_;refine' zQ rfl (vz rfl rfl) (ah bx.out _) ?_;refine zU ?_;refine aj ?_;refine⟨dE.heap.size,wb,i.drew.heap.size,C,bl,cw,?_,DS.made H.out a5.out p.out D bi.out hc L bx.out ez.out eA.out ey.out ?_ ?_ ?_ ?_ oS⟩
   ·simp only[yQ,yU,yX,yY]
   all_goals omega
 ·rintro gs a8 ⟨db,wb,eb,C,bl,cw,rfl,cy⟩;have c2:=aa cy;clear cy;simp only[yQ,yU,yX,yY];have a0:w2 (∀W,af i W->ag W (w.heap.size+1) #[aS,aS] 98):=by
   show∀W,_;intro W m;have a9:ag ((w.alloc (iB j S g l first)).alloc (.cells #[aS,aS] 98)) (w.heap.size+1) #[aS,aS] 98:=ag.new _ _ _ _ oS;exact(a9.below r.out).below m
  have g2:w2 (w.heap.size+1<i.heap.size):=by show _<_;have:=r.out.size;simp at this;omega
  have am:w2 (af i a8):=c2.out.B;go_wp2;refine Wb 1 ?_;rw[rounds_succ];go_wp2_with(go_at_call 120;refine(QA _ c _ c2.out).mono ?_;rintro e B ⟨b,rfl,de,b7,hb,d0,d1,d2,d3,d,bz,c3⟩;subst hb;have b9:=aa b7;have b1:=aa bz;have F:w2 (af i B):=bz.B;have c4:=aa c3;clear b7 bz c3;have ab:=aa (a0.out _ F.out);have c0:=eu ab.out;have c1:=ia ab.out;have bb:=bN 0 ab.out;have bd:=bN 1 ab.out;rcases de with _|v)
  ·have b2:=aa (ae P.out F.out);refine bodyPost_ret (v:= .tuple #[.agg #[aS,aS],I J 17]) (by simp[results,results66,go_sem,c0,c1]) rfl ⟨(b2.out.setCell oS _).setCell oS _,.inr ⟨b9.out,rfl⟩⟩
  ·obtain rfl:d=v:=c4.out v rfl;have e0:w2 (a8.heap.size<=B.heap.size):=b1.out.sz;have ca:=aa b1.out.hw;clear c4 c0 c1 bb bd a0;have a0:w2 (∀W,af i W->ag W (w.heap.size+1) #[aS,aS] 98):=by
    show∀W,_;intro W m;have a9:ag ((w.alloc (iB j S g l first)).alloc (.cells #[aS,aS] 98)) (w.heap.size+1) #[aS,aS] 98:=ag.new _ _ _ _ oS;exact(a9.below r.out).below m
   go_loopw [13,87] (λd4 be wr=>∃a f:Nat,a<=n/\f<=a/\be=I J a/\w2 (f=(kH c d a).length)/\w2 (DS ⟨i.heap.size,a8.heap.size,i,db,wb,eb,C,bl,j,S,g,l,first,n,cw,λ_=>True⟩ wr d0 d1 d2 d3 d)/\w2 (wr.ownsRow B.heap.size 3 1 d4 f ((kH c d a).map vN))/\w2 (B.heap.size<=wr.heap.size)) (λ_ be _=>n-(intOf be).toNat)
   case atStart=>exact⟨0,0,x1 _,w5 _,rfl,rfl,b1,World.ownsRow_nil _ _ _ _,w5 _⟩
   case round=>
    obtain⟨a,f,g3,g4,rfl,cb,o,M,b3⟩:=hrel;obtain⟨ce,cc,rfl⟩:=cA M.out;by_cases c5:a<n
    ·have c6:wr.cell? ⟨db,9,U⟩=gk (.slice (gk ⟨wb,0,U⟩) n cw):=o.out.cK.cell 9 _ rfl;have d5:wr.cell? ⟨wb,a,U⟩=gk (I J ((d.getD a 0:Nat):Int)):=(o.out.W.2 a (by have:=ca.out;show a<_;exact Nat.lt_of_lt_of_eq c5 this)).1;obtain⟨g5,e,a2,ac⟩:=ad.out wr o.out.B (by rw[ao,<-p.out];omega);cases e;have ch:=ac a (by rw[ao,<-p.out];exact c5);rw[bT]at ch;have bf:w2 (c.getD a 0≠d.getD a 0->kH c d (a+1)=kH c d a++[a]):=λe=>L0 e;have b4:w2 (c.getD a 0=d.getD a 0->kH c d (a+1)=kH c d a):=λe=>OQ e;generalize d.getD a 0=x at*;generalize c.getD a 0=y at*;clear ac a2;by_cases c7:y=x
     ·subst c7;have N:=aa (b4.out rfl);have a7:((y:Int)!=(y:Int))=R:=by simp
      clear bf b4;go_wp2;go_quiet (fail)
      go_wp2;have t:af wr (wr.drewN nq):=cS (w3 _ _) _;exact⟨⟨a+1,f,by omega,by omega,by go_num,by rw[N.out];exact cb,o.out.below t,by rw[N.out];exact aq M.out t,x3 b3.out t.size⟩,by simp[intOf];omega⟩
     ·have N:=aa (bf.out c7);have a6:((x:Int)==(y:Int))=R:=by rw[beq_eq_false_iff_ne];omega
      have a7:((x:Int)!=(y:Int))=wP:=by rw[bne,a6];rfl
      clear bf b4;go_wp2;go_quiet (fail)
      have t:af wr (wr.drewN nq):=cS (w3 _ _) _;have e9:=aa (o.out.below t);have c8:=aa (aq M.out t);have c9:w2 (B.heap.size<=(wr.drewN nq).heap.size):=x3 b3.out t.size;clear t o M b3 c6 d5 ch a6 a7;generalize wr.drewN nq=d6 at*;have g6:f<=4096:=oO;go_wp2_with(at_builtin;refine aY (f:=vN) (d:=0) uf rfl _ _ _ rfl B.heap.size 3 dl _ 8 z1 dn d9 ea ec rfl _ f (kH c d a) rfl (c8.out.alloc _) (gk ⟨d6.heap.size,0,U⟩) 1 1 [a] rfl rfl (RG.one _ _ _ _ rfl) oM oO (by have:=c9.out;simp;omega) ?_;intro gt d7 b5 hg;obtain⟨gv,gw,rfl⟩:=cA b5;have fb:=aa ((e9.out.below (ax _ _)).grown hg (λdi fc=>x3 e0.out (c8.out.lt di fc).1));have fd:=aa b5;have fn:w2 (B.heap.size<=d7.heap.size):=x3 c9.out (x3 oS hg.size);clear b5 hg)
      exact⟨⟨a+1,f+1,by omega,by omega,by go_num,by show _=_;rw[N.out,w9,<-cb.out];rfl,fb.out,by rw[N.out];exact fd.out,fn.out⟩,by simp[intOf];omega⟩
    ·obtain rfl:a=n:=oO;have G:w2 (af i wr):=o.out.B;have c6:wr.cell? ⟨db,9,U⟩=gk (.slice (gk ⟨wb,0,U⟩) a cw):=o.out.cK.cell 9 _ rfl;have a1:=aa (a0.out _ G.out);have c0:=eu a1.out;have c1:=ia a1.out;have bb:=bN 0 a1.out;have bd:=bN 1 a1.out;have b2:=aa (ae P.out G.out);have fo:w2 (az wr (.slice ce f cc) (zl (cf c d))):=by
      show az _ _ _;have d8:=az.yG (SG.bL (f:=vN) (d:=0) M.out);have e:kH c d a=cf c d:=by unfold kH cf;rw[p.out]
      rw[<-e];exact d8
     have fr:w2 (az wr (.slice (gk ⟨wb,0,U⟩) a cw) (zl d)):=o.out.W.ints ca.out o.out.ok.TH o.out.ok.Ty;go_wp2;have e1:(wr.setCell ⟨w.heap.size+1,0,U⟩ (.slice (gk ⟨wb,0,U⟩) a cw)).cell? ⟨w.heap.size+1,1,U⟩=gk aS:=by rw[World.cell?_setCell_other _ _ _ _ oS];exact c1
     refine bodyPost_ret (v:= .tuple #[.agg #[.slice (gk ⟨wb,0,U⟩) a cw,.slice ce f cc],I J 0]) (by simp[results,results66,go_sem,c0,c1,bb,bd]) rfl ⟨(b2.out.setCell oS _).setCell oS _,.inl ⟨d,_,_,b9.out,rfl,((fr.out.iJ _ c0 _).iJ _ e1 _),((fo.out.iJ _ c0 _).iJ _ e1 _)⟩⟩
def kJ (s p:Nat) (w a V:List Nat):Nat->List Nat
 |0=>w
 |k+1=>if V.getD k 0=0 then kJ s p w a V k else(kJ s p w a V k).set (a.getD k 0) (bD s p (w.getD (a.getD k 0) 0) (V.getD k 0))
def lM (a V:List Nat):Nat->List Nat
 |0=>[]
 |k+1=>if V.getD k 0=0 then lM a V k else lM a V k++[a.getD k 0]
theorem nC (s p:Nat) (w b V:List Nat) (k:Nat):(kJ s p w b V k).length=w.length:=by
 induction k with
 |zero=>rfl
 |succ k a=>unfold kJ;split;exact a;rw[List.length_set];exact a
theorem RS (a V:List Nat) (k:Nat):(lM a V k).length<=k:=by
 induction k with
 |zero=>exact w5 _
 |succ k b=>unfold lM;split;omega;rw[w9];simp;exact b
theorem uI {s p:Nat} {w d V:List Nat} {k e:Nat} (f:k<=d.length) (h:∀a,a<k->d.getD a 0≠e):(kJ s p w d V k).getD e 0=w.getD e 0:=by
 induction k with
 |zero=>rfl
 |succ k b=>
  have b:=b oO λa g=>h a oO;unfold kJ;split
  ·exact b
  ·rw[B2,Ui (h k oO),<-B2];exact b
theorem yT {d:List Nat} (m:d.Nodup) {f g:Nat} (i:f<d.length) (j:g<d.length) (e:d.getD f 0=d.getD g 0):f=g:=by
 have e2:d[f]=d[g]:=by simpa[x4,i,j]using e
 have k:∀a b,a<b->∀(l:a<d.length) (hb:b<d.length),d[a]≠d[b]:=λa b n l hb=>(List.pairwise_iff_getElem.1 m) a b l hb n;rcases Nat.lt_trichotomy f g with h|h|h
 ·exact absurd e2 (k _ _ h i j)
 ·exact h
 ·exact absurd e2.symm (k _ _ h j i)
section
open Fl
variable {c s p : Nat} (h : VF c s p)
include h
theorem Mu {w P V:List Nat} (a:ak s w) (b:ak s V):∀k,ak s (kJ s p w P V k)
 |0=>a
 |k+1=>by
  have d:=Mu (P:=P) a b k;unfold kJ;split
  ·exact d
  ·intro e;rw[B2,List.getElem?_set];have:=h.aO;split
   ·split
    ·exact jd h (a _) (b _)
    ·show 0<s;omega
   ·rw[<-B2];exact d e
theorem sub_eq_self {a b:Nat} (d:a<s) (hb:b<s):bD s p a b=a↔b=0:=by
 constructor
 ·intro e;have f:=kQ h d hb;rw[e]at f;refine(pe h hb).1 ?_;have g:aR h a-(aR h a-aR h b)=aR h a-aR h a:=by rw[<-f]
  rw[du,gJ,gJ,mH,oa,<-iu,oz,cH]at g;exact g
 ·rintro rfl;exact rm h d
theorem LX {w a V:List Nat} (m:ak s w) (j:a.Nodup) (hb:∀l∈a,l<w.length) {k b:Nat} (q:k<=a.length) (r:b<k):(kJ s p w a V k).getD (a.getD b 0) 0=bD s p (w.getD (a.getD b 0) 0) (V.getD b 0):=by
 induction k with
 |zero=>omega
 |succ k f=>
  have f:=f oO;unfold kJ
  have o:∀d,d<a.length->a.getD d 0<w.length:=λd i=>hb _ (by
   have:a.getD d 0=a[d]:=by simp[x4,i]
   rw[this];exact C4 i)
  rcases z6 b k with g|g
  ·split
   ·exact f g
   ·rw[B2,Ui (λe=>by have:=yT j oO oO e;omega),<-B2];exact f g
  ·obtain rfl:b=k:=oO;split
   ·rename_i n
    rw[n,rm h (m _)];exact uI oO λd i e=>by have:=yT j oO oO e;omega
   ·rw[B2,List.getElem?_set_self (by rw[nC];exact o b oO)];rfl
theorem zw {w a V:List Nat} (f:ak s w) (g:ak s V) (i:a.Nodup) (hb:∀b∈a,b<w.length):∀k,k<=a.length->lM a V k=(a.take k).filter λb=>decide (w.getD b 0≠(kJ s p w a V a.length).getD b 0)
 |0,_=>by simp[lM]
 |k+1,l=>by
  have j:=zw f g i hb k oO;rw[oy a oO,UQ,<-j];have e1:=LX h (V:=V) f i hb (k:=a.length) (w5 _) (show k<a.length by omega);have e2:=sub_eq_self h (f (a.getD k 0)) (g k);show(if V.getD k 0=0 then lM a V k else lM a V k++[a.getD k 0])=_;by_cases d:V.getD k 0=0
  ·rw[if_pos d,VK,if_neg (by rw[e1,e2.2 d];simp)];simp
  ·rw[if_neg d,VK,if_pos (by rw[e1];simp only[decide_eq_true_eq];exactλe=>d (e2.1 e.symm))];simp
theorem Nk {w V:List Nat} {f:Nat->Bool} (k:ak s w) (l:ak s V):
 lM ((y3 w.length).filter f) V ((y3 w.length).filter f).length=cf w (kJ s p w ((y3 w.length).filter f) V ((y3 w.length).filter f).length):=by
 have m:((y3 w.length).filter f).Nodup:=List.nodup_range.filter _;have hb:∀a∈(y3 w.length).filter f,a<w.length:=λa g=>List.mem_range.1 (List.mem_filter.1 g).1;rw[zw h (V:=V) k l m hb _ (w5 _),S3];unfold cf;rw[List.filter_filter];apply List.filter_congr;intro a g;by_cases d:f a=wP
 ·simp[d]
 ·have:(kJ s p w ((y3 w.length).filter f) V ((y3 w.length).filter f).length).getD a 0=w.getD a 0:=uI (w5 _) λb i e=>by
   have j:((y3 w.length).filter f).getD b 0∈(y3 w.length).filter f:=by
    have:((y3 w.length).filter f).getD b 0=((y3 w.length).filter f)[b]:=by simp[x4,i]
    rw[this];exact C4 i
   rw[e]at j;exact d (List.mem_filter.1 j).2
  rw[this];simp[d]
theorem Qv {n a:Nat} (hn:n<=s-1) (b:a<n):bW s p (dk s p (n-1-a))=gZ s p n a:=by
 refine ik h (gM h) (fj h _) ?_;rw[zI h (fj h _) (LN h _),show aR h (gZ s p n a)=_ from xT h hn b,kZ];rfl
noncomputable def lI (s p a first:Nat) (w q:List Nat):List Nat:=
 kJ s p w (eB s p w.length q) (iN s p first a (bO s p a first w) (iG s p w.length (eB s p w.length q)) (eB s p w.length q).length) (eB s p w.length q).length
theorem Eu {first d:Nat} {a b:List Nat} {k:Nat}:ak s (iN s p first d a b k):=iY h λe _=>bk h _ _
theorem yi {b first:Nat} {w v q:List Nat} {L:Nat} (j:ak s w) (hn:w.length<=s-1) (g:Fix s p b first w v) (hq:ak s q) (r:dm q)
 (t:jZ h (co h (bO s p b first w)) b (co h q) L):(eB s p w.length q).length=L/\L=q.length-1/\2* L<=b/\lI s p b first w q=v:=by
 have m:=pn h hn (first:=first) (err h w v);have n:(iC h w.length first (err h w v) w.length).length=(cf w v).length:=by rw[mr,lN h j g.lt]
 have u:=g.df;obtain⟨A,l⟩:=t.end h m (λd a=>by rw[xa h a,tR h j g a]) (by rw[n];exact u);have x:q.length=(cf w v).length+1:=by
  rw[<-n];refine ux h hq r (λf i=>by rw[l];exact kW _ f i) ?_;rw[l];exact AM m.x0
 have o:=FJ h j hn g hq x l;refine⟨by rw[o];omega,by omega,by omega,?_⟩;unfold lI;rw[o];have y:(cf w v).Nodup:=List.nodup_range.filter _;have z:∀f∈cf w v,f<w.length:=λf i=>(tN.1 i).1;refine dC (by rw[nC,g.ln]) λf i=>?_;rw[nC]at i;by_cases k:f∈cf w v
 ·obtain⟨d,a,rfl⟩:=List.getElem_of_mem k;have e:(cf w v)[d]=(cf w v).getD d 0:=by simp[x4,a]
  rw[e,LX h j y z (w5 _) a];have e2:(iN s p first b (bO s p b first w) (iG s p w.length (cf w v)) (cf w v).length).getD d 0=yI s p first (dt s p (bO s p b first w) (gl s p (iG s p w.length (cf w v)) (iG s p w.length (cf w v)).length) b b 0) (iG s p w.length (cf w v)) d:=by
   unfold iN;exact bC _ _ _ a
  rw[e2];exact Nz h j hn g a
 ·rw[uI (w5 _) λd a e=>k (by
   have:(cf w v).getD d 0=(cf w v)[d]:=by simp[x4,a]
   rw[<-e,this];exact C4 a)]
  apply Classical.byContradiction;intro e;exact k (tN.2 ⟨i,e⟩)
theorem KI {a first:Nat} {w q:List Nat} {L:Nat} (d:ak s w) (hn:w.length<=s-1) (hq:ak s q) (e:dm q) (f:jZ h (co h (bO s p a first w)) a (co h q) L)
 (hc:¬((eB s p w.length q).length=L/\(eB s p w.length q).length+1=q.length/\2* (eB s p w.length q).length<=a)) (k:1<=q.length):ei s p a first w U:=
 ⟨λv b=>by
  obtain⟨g,i,j,-⟩:=yi h d hn b hq e f
  exact absurd ⟨g,by omega,by omega⟩ hc,λv b=>by cases b⟩
theorem NF {a first:Nat} {w q:List Nat} {L:Nat} (f:ak s w) (hn:w.length<=s-1) (hq:ak s q) (g:dm q) (i:jZ h (co h (bO s p a first w)) a (co h q) L)
 {d:Nat} (j:d<a) (e:iK s p first (lI s p a first w q) d≠0):ei s p a first w U:=
 ⟨λv b=>by
  obtain⟨-,-,-,k⟩:=yi h f hn b hq g i;rw[k]at e
  exact absurd (b.cw d j) e,λv b=>by cases b⟩
theorem Ld {b first:Nat} {w q:List Nat} (a:ak s w):ak s (lI s p b first w q):=Mu h a (Eu h) _
omit h in
theorem zR {par first:Nat} {w q:List Nat}:(lI s p par first w q).length=w.length:=nC _ _ _ _ _ _
theorem EC {par first:Nat} {w q:List Nat} (b:ak s w):lM (eB s p w.length q) (iN s p first par (bO s p par first w) (iG s p w.length (eB s p w.length q)) (eB s p w.length q).length) (eB s p w.length q).length=cf w (lI s p par first w q):=
 Nk h (f:=λa=>cP s p (gZ s p w.length a) q==0) b (Eu h)
theorem MT {a first:Nat} {w q:List Nat} {L:Nat} (d:ak s w) (hn:w.length<=s-1) (hq:ak s q) (g:dm q) (i:jZ h (co h (bO s p a first w)) a (co h q) L)
 (k:2* (eB s p w.length q).length<=a) (j:∀f,f<a->iK s p first (lI s p a first w q) f=0):ei s p a first w (gk (lI s p a first w q)):=by
 refine⟨λv b=>by rw[(yi h d hn b hq g i).2.2.2],λv b=>?_⟩;injection b with b;subst b;refine⟨Ld h d,zR,j,?_⟩;have e:=EC h (par:=a) (first:=first) (q:=q) d;have:=RS (eB s p w.length q) (iN s p first a (bO s p a first w) (iG s p w.length (eB s p w.length q)) (eB s p w.length q).length) (eB s p w.length q).length;rw[e]at this;omega
end
end
end Go.Proofs.YtmnlkganmgcpbaaGreatDoor
