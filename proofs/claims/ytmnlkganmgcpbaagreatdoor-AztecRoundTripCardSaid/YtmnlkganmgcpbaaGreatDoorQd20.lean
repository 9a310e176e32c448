import Derived.Test.YtmnlkganmgcpbaaGreatDoorQd19
set_option maxRecDepth 100000
set_option maxHeartbeats 4000000
set_option linter.unusedVariables false
set_option linter.unusedSectionVars false
set_option linter.unusedSimpArgs false
namespace Go.Proofs.YtmnlkganmgcpbaaGreatDoor
section
open Go.RowKit
theorem SG.rd {w:World} {v:Value} {l:List Nat} (h:SG vN 0 w v l):∃A n c,v= .slice A n c/\n=l.length/\SR vN 0 w A n c l/\RD w A (zl l):=by
 obtain⟨A,n,c,rfl,hs⟩:=h.parts;obtain⟨b,d,e,-,-,a⟩:=aB.Ae h;injection e with e1 e2 e3;exact⟨A,n,c,rfl,hs.hn,hs,by rw[e1];exact a⟩
theorem aB.Kj {w:World} {v:Value} {l:List Nat} (h:aB w v (zl l)):∃A n c,v= .slice A n c/\n=l.length/\SR vN 0 w A n c l/\RD w A (zl l):=SG.rd (aB.MN h)
theorem Hs (a b:Nat) (c:Bool):(aH a (e8 c)++aH b (gB c)).length=gF c* 4:=by
 rw[List.length_append,aN,aN];cases c<;>rfl
theorem JW (L k:Nat) (c:Bool) (w:World) (N:1<=L) (O:L<=32) (hc:c=true->L<=4) (b7:1<=k) (P:k<=gj c):Calls Tryz.prog 23 #[.int .i64 L,.int .i64 k,.bool c] w (RT vB false w (ka L c k,0)):=by
 have b8:=eP w L c;have al:Hid (∀W,Calls Tryz.prog 29 #[aP L c] W λe w'=>e= .returned (.bool true)/\Below W.heap.size W w'):=λW=>by rw[<-exB_of N O hc];exact eV L c W
 have am:Hid (∀W,Calls Tryz.prog 57 #[.bool c] W λe w'=>e= .returned (.int .i64 ((gj c:Nat):Int))/\w'=W):=λW=>tE c W;have ap:Hid (∀W,Calls Tryz.prog 58 #[.bool c] W λe w'=>e= .returned (.tuple #[.int .i64 ((e8 c:Nat):Int),.int .i64 ((gB c:Nat):Int),.int .i64 ((eF c:Nat):Int)])/\w'=W):=λW=>r9 c W;obtain⟨B,hB⟩:∃B,B=aH (L-1) (e8 c)++aH (k-1) (gB c):=⟨_,rfl⟩;have o:B.length=gF c* 4:=by rw[hB];exact Hs _ _ _
 have av:gF c<=4:=by cases c<;>decide
 have b3:1<=gF c:=by cases c<;>decide
 have j:=dc B 4 (gF c);have n:=ni B 4 (gF c);have K:ka L c k=bH (gL 16 19 (eF c) 1 (bj B 4 (gF c))) 4:=by rw[Cp,hB]
 have l:=Kg c;have a0:eF c<=6:=by cases c<;>decide
 have b4:gF c+eF c<=15:=by cases c<;>decide
 have g:=ug (yR Fi) (par:=eF c) (first:=1) n;change zS 16 19 (eF c) 1 _ (gL 16 19 (eF c) 1 (bj B 4 (gF c)))at g;have p:=g.ln;have M:=g.lt;rw[j]at p;have c8:k<=2048:=by
  have:gj c<=2048:=by cases c<;>decide
  omega
 have c9:e8 c<=11/\gB c<=11:=by cases c<;>decide
 obtain⟨b,q⟩:∃b,b=L-1:=⟨_,rfl⟩;obtain⟨f,r⟩:∃f,f=k-1:=⟨_,rfl⟩;have da:(L:Int)-1=(b:Int):=oO;have dd:(k:Int)-1=(f:Int):=oO;rw[<-q,<-r]at hB;have a1:Hid (∀W,Calls Tryz.prog 61 #[.int .i64 4,.int .i64 ((eF c:Nat):Int)] W λe w'=>e= .returned (.tuple #[dH 2 16 19 (eF c) 1,.int .i64 0])/\Below W.heap.size W w'):=λW=>tG (eF c) W l;have b5:Hid (∀W,Calls Tryz.prog 59 #[.slice none 0 0,.int .i64 b,.int .i64 ((e8 c:Nat):Int)] W (RT vB false W (aH b (e8 c),0))):=λW=>ux none 0 0 [] b (e8 c) W oO oO oO ⟨rfl,Nat.le_refl _,Nat.zero_le _,RG.dO _ _⟩;have b6:Hid (∀W A m a,SR vB false W A m a (aH b (e8 c))->Calls Tryz.prog 59 #[.slice A m a,.int .i64 f,.int .i64 ((gB c:Nat):Int)] W (RT vB false W (B,0))):=by
  show∀W A m a,_->_;intro W A m a hs;have:=hs.hn;rw[aN]at this;rw[hB];exact ux A m a _ f (gB c) W oO oO oO hs
 have a2:Hid (∀W A m a,SR vB false W A m a B->Calls Tryz.prog 60 #[.slice A m a,.int .i64 4,.bool false] W (RT vN 0 W (bj B 4 (gF c),0))):=by
  show∀W A m a,_->_;intro W A m a hs;have d:=hs.hn;rw[o]at d;exact rI A m a 4 (gF c) B W oO oO d oO hs
 have a3:Hid (∀W A m a,SR vN 0 W A m a (bj B 4 (gF c))->RD W A (zl (bj B 4 (gF c)))->Calls Tryz.prog 62 #[dH 2 16 19 (eF c) 1,.slice A m a] W (kS W (zl (gL 16 19 (eF c) 1 (bj B 4 (gF c))),0))):=by
  show∀W A m a,_->_->_;intro W A m a hs Q;have d:=hs.hn;have S:=d;rw[j]at S;exact uY 2 16 19 (eF c) 1 _ m A a W l d n oO oO Q
 have a4:Hid (∀W A m a,SR vN 0 W A m a (gL 16 19 (eF c) 1 (bj B 4 (gF c)))->Calls Tryz.prog 63 #[.slice A m a,.int .i64 4] W (RT vB false W (ka L c k,0))):=by
  show∀W A m a,_->_;intro W A m a hs;have d:=hs.hn;rw[K];exact nJ A m a 4 _ W oO oO oO M hs
 have de:k<=gj c:=P;clear hB o j n K l a0 b4 g p M q r hc av b3;generalize e8 c=lb at*;generalize gB c=db at*;generalize eF c=mp at*;generalize bj B 4 (gF c)=T at*;generalize gL 16 19 mp 1 T=b9 at*;generalize ka L c k=ca at*;generalize aH b lb=cb at*;have dl:¬(k:Int)<1:=oO;generalize gj c=U at*;have dn:¬(U:Int)<(k:Int):=oO;go_enter Tryz.func23,Tryz.ntmps23
 go_wp2_with(first
  |(go_at_call 29;refine(al.out _).mono ?_;rintro e V ⟨rfl,s⟩;have a5:Hid (Below w.heap.size w V):=cP s;clear s)
  |(go_at_call 57;refine(am.out _).mono ?_;rintro e ce ⟨rfl,t⟩;rw[t];clear t)
  |(go_at_call 58;refine(ap.out _).mono ?_;rintro e ch ⟨rfl,u⟩;rw[u];clear u)
  |(go_at_call 59;(with_reducible show Calls _ _ #[.slice none 0 0,_,_] _ _);refine(b5.out _).mono ?_;rintro e X ⟨v4,rfl,v,x⟩;obtain⟨ci,n4,ck,rfl,a6⟩:=v.parts;have a7:=Lib.hid a6;have a8:Hid (Below w.heap.size w X):=ae a5.out x;clear v x)
  |(go_at_call 59;refine(b6.out _ _ _ _ a7.out).mono ?_;rintro e Y ⟨co,rfl,y,z⟩;obtain⟨cp,cq,cs,rfl,a9⟩:=y.parts;have bb:=Lib.hid a9;have bd:Hid (Below w.heap.size w Y):=ae a8.out z;clear y z)
  |(go_at_call 60;refine(a2.out _ _ _ _ bb.out).mono ?_;rintro e Z ⟨v6,rfl,C,D⟩;obtain⟨cv,cx,c2,rfl,-,be,E⟩:=C.rd;have bf:=Lib.hid be;have bi:=Lib.hid E;have bo:Hid (Below w.heap.size w Z):=ae bd.out D;clear C D E)
  |(go_at_call 61;refine(a1.out _).mono ?_;rintro e ab ⟨rfl,i⟩;have bq:Hid (Below w.heap.size w ab):=ae bo.out i;have bs:=Lib.hid (bf.out.below i);have bt:=Lib.hid (bi.out.below i);clear i)
  |(go_at_call 62;refine(a3.out _ _ _ _ (bs.out.below (ax _ _)) (bt.out.below (ax _ _))).mono ?_;rintro e ac ⟨c3,rfl,F,G⟩;obtain⟨c4,c5,c6,rfl,-,bv,-⟩:=aB.Kj F;have bx:=Lib.hid bv;have bz:Hid (Below w.heap.size w ac):=ae (ah bq.out _) G;clear F G)
  |(go_at_call 63;refine(a4.out _ _ _ _ bx.out).mono ?_;rintro e ad ⟨c7,rfl,H,J⟩;have b1:=Lib.hid H;have b2:Hid (Below w.heap.size w ad):=ae bz.out J;clear H J))
 go_ret2
 exact RT.mk rfl b1.out b2.out
theorem kG {l:List UInt8} {C:Nat->Nat->Nat} (hl:l.length<=60) (a:cj (bA l) C) (L:Nat) {ws:List Nat} (b:ws=aJ (bF l) (aq L)):ao (2^aq L) ws/\ws.length<=(bF l).length/\(bF l).length<=ws.length* aq L/\(bF l).length<=501:=by
 have f:=qX oO a;have g:=fu L;obtain⟨e,e1,e2,e3,e4,e5,e6,e7⟩:=kN (bF l) (aq L) oO oO oO;rw[<-b]at e4 e6 e7;refine⟨λi=>?_,e7,e4,by omega⟩;rcases Nat.lt_or_ge i ws.length with hi|hi
 ·have:ws.getD i 0∈ws:=by simp only[List.getD,List.getElem?_eq_getElem hi,Option.getD_some];exact List.getElem_mem hi
  have:=(e6 _ this).2;omega
 ·rw[lk hi];exact Nat.two_pow_pos _
theorem tS {L:Nat} {c:Bool} {ws:List Nat} (hw:ao (2^aq L) ws):zS (2^aq L) (jU (aq L)) (ay L c-ws.length) 1 ws (mL L c ws):=ug (yR (kW L)) hw
theorem mZ {L:Nat} {c:Bool} {ws:List Nat} (hw:ao (2^aq L) ws) (hk:ws.length<=ay L c):(mL L c ws).length=ay L c:=by rw[(tS hw).ln];omega
theorem uF {L:Nat} {c:Bool} {ws:List Nat} (hw:ao (2^aq L) ws) (hk:ws.length<=ay L c):(lV L c ws).length=ay L c* aq L:=by unfold lV;rw[jf,mZ hw hk]
theorem rG (L:Nat) (c:Bool):ay L c* aq L<=ja L c:=Nat.div_mul_le_self _ _
theorem p8 (L:Nat) (c:Bool) (k:Nat):(ka L c k).length=if c=true then 28 else 40:=by
 unfold ka;rw[jf,qa,dc];cases c<;>rfl
section
variable {L : Nat} {c : Bool} (h1 : 1 ≤ L) (hL : L ≤ 32) (hc : c = true → L ≤ 4) {ws : List Nat} (hw : ao (2 ^ aq L) ws) (hk : ws.length ≤ ay L c)
include h1 hL hw hk
theorem Fb:ud L c ws.length (eo L c ws):=by
 refine⟨kH _ _ _ _,λp a b h=>LL h1 hL a b h,JT h1 hL,GA h1 hL,?_⟩;unfold eo pQ;refine J5 h1 hL (kI _ _ _) ?_;rw[p8,eS]
theorem FP:(cE (ai L c) (eo L c ws) (bp L c)).drop ((bp L c).length-ay L c* aq L)=lV L c ws:=by
 have a:=uF hw hk;have h:=IT h1 hL (content:=lV L c ws) (msg:=ka L c ws.length) (by rw[a,pJ];exact rG L c) (d:=jY (ai L c) (aT L c) c) (kI _ _ _);rw[a]at h;unfold cE;rw[<-List.map_drop];exact h
theorem Ez:lO (ai L c) L c (eo L c ws)=mL L c ws:=by
 unfold lO;rw[FP h1 hL hw hk];have:=wO (tS (c:=c) hw).lt;rw[mZ hw hk]at this;exact this
end
def pL (a t:List Bool):List Bool:=List.zipWith xor a t
theorem uz {a t:List Bool} (h:a.length=t.length):(pL a t).length=a.length:=by unfold pL;rw[List.length_zipWith];omega
theorem sE {a t:List Bool} (h:a.length=t.length) (i:Nat):(pL a t).getD i false=xor (a.getD i false) (t.getD i false):=by
 unfold pL;simp only[List.getD,List.getElem?_zipWith];rcases Nat.lt_or_ge i a.length with hi|hi
 ·rw[List.getElem?_eq_getElem hi,List.getElem?_eq_getElem (by omega:i<t.length)];rfl
 ·rw[List.getElem?_eq_none hi,List.getElem?_eq_none (by omega:t.length<=i)];rfl
theorem Nc {a b:List Bool} (hl:a.length=b.length) (h:∀i,i<a.length->a.getD i false=b.getD i false):a=b:=by
 apply List.ext_getElem hl;intro i h1 e;have:=h i h1;simpa[List.getD,h1,e]using this
theorem getD_set_ne (d:List Bool) {i j:Nat} (b:Bool) (h:i≠j):(d.set i b).getD j false=d.getD j false:=by
 simp only[List.getD];rw[List.getElem?_set_ne h]
def mX (n:Nat) (d:List Bool) (ps:List Pt) (t:List Bool):List Bool:=wrL n d ps (pL (cE n d ps) t)
theorem Bw (n:Nat) (d:List Bool) (ps:List Pt) (t:List Bool):(mX n d ps t).length=d.length:=dV _ _ _ _
theorem nW (n:Nat) (d:List Bool) (ps:List Pt):(cE n d ps).length=ps.length:=by unfold cE;simp
section
variable {n : Nat} {d : List Bool} {ps : List Pt} (hi : ∀ p ∈ ps, bW n p < d.length) (hn : ps.Pairwise fun p q => bW n p ≠ bW n q)
include hi hn
theorem GN {t:List Bool} (a:t.length=ps.length):cE n (mX n d ps t) ps=pL (cE n d ps) t:=by
 have e:=nW n d ps;exact uk n d ps _ (by rw[uz oO,e]) hi hn
omit hi hn in
theorem EU (t:List Bool) {i:Nat} (h:∀p∈ps,bW n p≠i):(mX n d ps t).getD i false=d.getD i false:=jZ n d ps _ i h
omit hn in
theorem Ia:mX n d ps (List.replicate ps.length false)=d:=by
 have e:pL (cE n d ps) (List.replicate ps.length false)=cE n d ps:=by
  refine Nc (by rw[uz (by rw[nW];simp)]) λi _=>?_;rw[sE (by rw[nW];simp)];have:(List.replicate ps.length false).getD i false=false:=by simp only[List.getD,List.getElem?_replicate];split<;>rfl
  rw[this,Bool.xor_false]
 unfold mX;rw[e];exact vx n d ps _ hi rfl
end
theorem uP (a b:List Bool) (x y:Nat):∀s,numF a x s=numF b y s↔∀j,j<s->a.getD (x+j) false=b.getD (y+j) false
 |0=>⟨λ_ j h=>absurd h oO,λ_=>rfl⟩
 |s+1=>by
  have e:=uP a b x y s;show 2* numF a x s+_=2* numF b y s+_↔_;constructor
  ·intro h;have h1:numF a x s=numF b y s:=by revert h;split<;>split<;>intro h<;>omega
   rw[h1]at h;intro j f;rcases Nat.lt_or_ge j s with g|g
   ·exact e.1 h1 j g
   ·obtain rfl:j=s:=oO
    revert h
    cases a.getD (x+j) false<;>cases b.getD (y+j) false<;>simp<;>omega
  ·intro h;rw[e.2 λj f=>h j oO,h s oO]
def IV (t:List Bool) (off s i:Nat):Bool:=(List.range s).any λj=>t.getD (off+i* s+j) false
def vL (t:List Bool) (off s m:Nat):List Nat:=(List.range m).filter (IV t off s)
theorem J3 {a t:List Bool} (h:a.length=t.length) (off s m:Nat):dX (bj ((pL a t).drop off) s m) (bj (a.drop off) s m)=vL t off s m:=by
 unfold dX vL;rw[dc];apply List.filter_congr;intro i hi;rw[List.mem_range]at hi;have e1:(bj ((pL a t).drop off) s m).getD i 0=numF (pL a t) (off+i* s) s:=by
  unfold bj;rw[bw _ _ _ hi,nt]
 have e2:(bj (a.drop off) s m).getD i 0=numF a (off+i* s) s:=by
  unfold bj;rw[bw _ _ _ hi,nt]
 rw[e1,e2,Bool.eq_iff_iff,decide_eq_true_eq,Ne,uP];unfold IV;rw[List.any_eq_true];constructor
 ·intro f;by_cases b:∃x,x∈List.range s/\t.getD (off+i* s+x) false=true
  ·exact b
  ·exfalso;apply f;intro j e;rw[sE h];have:t.getD (off+i* s+j) false=false:=by
    cases hb:t.getD (off+i* s+j) false with
    |false=>rfl
    |true=>exact absurd ⟨j,List.mem_range.2 e,hb⟩ b
   rw[this,Bool.xor_false]
 ·rintro⟨x,b,hb⟩ g;have:=g x (List.mem_range.1 b);rw[sE h,hb]at this
  revert this
  cases a.getD (off+i* s+x) false<;>decide
section
variable {L : Nat} {c : Bool} (h1 : 1 ≤ L) (hL : L ≤ 32) (hc : c = true → L ≤ 4) {ws : List Nat} (hw : ao (2 ^ aq L) ws) (hk : ws.length ≤ ay L c)
include h1 hL hw hk
theorem Dv {d:List Bool} (b:d.length=ai L c* ai L c):(∀p∈bp L c,bW (ai L c) p<d.length)/\(bp L c).Pairwise λp q=>bW (ai L c) p≠bW (ai L c) q:=by
 refine⟨λp a=>?_,oE (vZ hL) λp a=>(jk hL a).1⟩;rw[b];exact iF (jk hL a).1 (jk hL a).2
theorem E6 (t:List Bool):ud L c ws.length (mX (ai L c) (eo L c ws) (bp L c) t):=by
 have h:=Fb (c:=c) h1 hL hw hk;have hs:=jg (c:=c) h1 hL
 have f:∀q:Pt,q.1<ai L c->q∉bp L c->(mX (ai L c) (eo L c ws) (bp L c) t).getD (bW (ai L c) q) false=(eo L c ws).getD (bW (ai L c) q) false:=λq j k=>
  EU _ λp a e=>k (oH (jk hL a).1 j e▸a)
 have g:∀ps:List Pt,(∀p∈ps,p∈bI (aT L c) (aM c)\/p∈bg (aT L c) (aM c))->cE (ai L c) (mX (ai L c) (eo L c ws) (bp L c) t) ps=cE (ai L c) (eo L c ws) ps:=λps l=>
  List.map_congr_left λp a=>by
   have:=B5 h1 hL (l p a);exact f p this.1 this.2.2.1
 refine⟨by rw[Bw];exact h.ln,λp i m a=>?_,?_,?_,?_⟩
 ·rw[f p i (λb=>by have:=oU hL b;omega)];exact h.M9 p i m a
 ·rw[g _ λp a=> .inl a];exact h.Il
 ·rw[g _ λp a=> .inr a];exact h.Kr
 ·rw[<-h.msg];refine List.map_congr_left λp a=>?_;have o:=kj (c:=c) (C:=aT L c) oO a
  exact f p oO λb=>by
   have r:=xD (c:=c) (C:=aT L c) oO a;have s:=oU hL b;omega
theorem Fw {t:List Bool} (a:t.length=(bp L c).length):dX (lO (ai L c) L c (mX (ai L c) (eo L c ws) (bp L c) t)) (mL L c ws)=vL t ((bp L c).length-ay L c* aq L) (aq L) (ay L c):=by
 obtain⟨b,e⟩:=Dv h1 hL hw hk (d:=eo L c ws) (kH _ _ _ _);rw[<-Ez h1 hL hw hk];unfold lO;rw[GN b e a];exact J3 (by rw[nW];exact a.symm) _ _ _
end
theorem JP {l:List UInt8} {C:Nat->Nat->Nat} (hl:l.length<=60) (u:1<=(bF l).length) (e:cj (bA l) C) {L:Nat} {c:Bool} (h1:1<=L) (hL:L<=32) (hc:c=true->L<=4) {ws:List Nat} (g:ws=aJ (bF l) (aq L)) (j:ws.length<=gj c) (hk:ws.length<ay L c) {t:List Bool} (k:t.length=(bp L c).length)
 (hb:2* (vL t ((bp L c).length-ay L c* aq L) (aq L) (ay L c)).length<=ay L c-ws.length):
 cu (ai L c) (ai L c) (mX (ai L c) (eo L c ws) (bp L c) t)=(l,((vL t ((bp L c).length-ay L c* aq L) (aq L) (ay L c)).length:Int),0):=by
 obtain⟨a,r,m,s⟩:=kG hl e L g;have o:1<=ws.length:=by
  rcases Nat.eq_zero_or_pos ws.length with h|h
  ·rw[h]at m;omega
  ·exact h
 have b:ws.length<=ay L c:=oO;have i:=Fw h1 hL a b k;have f:=tS (c:=c) a;rw[(E6 h1 hL a b t).dec h1 hL hc o j hk,Ip hl e h1 hL hc g hk ⟨f.lt,?_,f.cw,?_⟩,i]
 ·rw[mZ a b];exact(dc _ _ _).symm
 ·rw[i];exact hb
theorem Bl (m off s i:Nat):vL (List.replicate m false) off s i=[]:=by
 unfold vL;rw[List.filter_eq_nil_iff];intro x _;unfold IV;rw[Bool.not_eq_true,List.any_eq_false];intro j _;simp only[List.getD,List.getElem?_replicate];split<;>simp
theorem Jg {l:List UInt8} {C:Nat->Nat->Nat} (hl:l.length<=60) (i:1<=(bF l).length) (a:cj (bA l) C) {L:Nat} {c:Bool} (h1:1<=L) (hL:L<=32) (hc:c=true->L<=4) {ws:List Nat} (b:ws=aJ (bF l) (aq L)) (e:ws.length<=gj c) (hk:ws.length<ay L c):
 cu (ai L c) (ai L c) (eo L c ws)=(l,0,0):=by
 obtain⟨f,j,k,m⟩:=kG hl a L b;obtain⟨g,o⟩:=Dv h1 hL f (by omega:ws.length<=ay L c) (d:=eo L c ws) (kH _ _ _ _);have h:=JP hl i a h1 hL hc b e hk (t:=List.replicate (bp L c).length false) oS (by rw[Bl];simp);rw[Ia g,Bl]at h;exact h
theorem tW:(Tryz.prog.info? 91).map (·.zero)=some (some (.agg #[.int .i64 0,.int .i64 0,.int .i64 0,.int .i64 0,.int .i64 0])):=oK
theorem Af:(Tryz.prog.info? 91).map (·.size)=some 5:=oK
theorem xU:(Tryz.prog.info? 71).map (·.zero)=some (some (.agg #[.int .i64 0,.bool false,.int .i64 0,.int .i64 0])):=oK
theorem pn:(Tryz.prog.info? 71).map (·.size)=some 4:=oK
theorem Gs:Tryz.prog.underlying 40=some (.slice (Tryz.prog.elem 40)):=oK
theorem Jk (w:World):(sizeOf (Tryz.prog.elem 40)).run Tryz.prog w= .ok 2 w:=oK
theorem Di {a:Act} {d:Oper} {W:World} {x i:Operand} (e:d.op= .slice 40 x (some i) none none) {A:Option Addr} {n c:Nat} (f:a.eval x= .slice A n c) (k:Nat) (g:a.eval i= .int .i64 (k:Int)) (m:k<=n) {v:Value} (j:sliced A k n c 2=v):
 (execOp a.eval d).run Tryz.prog W= .ok (.value v) W:=by
 subst j;have b:=run_slice_l (P:=Tryz.prog) W 40 A n c Gs .i64 (k:Int) oO oO;rw[Jk]at b;simp only[Result.andThen_ok,Int.toNat_natCast]at b;have l:=run_sliceAt_slice (P:=Tryz.prog) W 40 (.slice A n c) (some (.int .i64 (k:Int))) none none Gs;unfold execOp;simp only[e,f,g,Option.map_some,Option.map_none,Sem.run_bind,Sem.run_pure,Result.andThen_ok,l,b]
theorem fM.from {B:Nat} {w:World} {A:Option Addr} {n c:Nat} {xs:List Pt} (h:fM B w (.slice A n c) xs) (k:Nat) (u:k<=n):fM B w (sliced A k n c 2) (xs.drop k):=by
 obtain⟨⟨d,v,e,x,y,p⟩,f⟩:=h;injection e with e1 e2 e3;subst e1 e2 e3;by_cases o:c=k
 ·have q:xs.drop k=[]:=List.drop_eq_nil_of_le oO;rw[q];unfold sliced;rw[if_pos o];have r:xs.length-k=0:=oO;rw[r];exact⟨⟨A,c-k,rfl,Nat.zero_le _,by omega,λh=>absurd h oS⟩,λd m s i e1 e2=>by injection e1 with e1 _ _;exact f A xs.length c i rfl (e1.trans e2)⟩
 ·unfold sliced;rw[if_neg o];refine⟨⟨_,c-k,by rw[List.length_drop],by rw[List.length_drop];omega,by omega,λhn=>?_⟩,λd m s i e1 e2=>?_⟩
  ·rw[List.length_drop]at hn;obtain⟨g,a,e,hg,hc⟩:=p oO;refine⟨g,a+k* 2,by rw[e,Option.map_some,add_plain],hg,λj t=>?_⟩;rw[List.length_drop]at t;have b:=hc (k+j) oO;have e6:(xs.drop k).getD j (0,0)=xs.getD (k+j) (0,0):=by simp[List.getD]
   rw[e6,show a+k* 2+j* 2=a+(k+j)* 2 from by omega];exact b
  ·injection e1 with e1 _ _;rw[e2]at e1;cases A with
   |none=>cases e1
   |some l=>
    have b:=f (some l) xs.length c l rfl rfl;simp only[Option.map_some]at e1;injection e1 with e1;rw[<-e1,aL];exact b
theorem SR.MK {α:Type} {f:α->Value} {d:α} {w W:World} {db:Nat} {A:Option Addr} {n c:Nat} {l:List α} (h:SR f d w A n c l) (b:aD db w W) (g:∀a,A=some a->a.block≠db):SR f d W A n c l:=by
 refine⟨h.hn,h.hc,h.hm,λi=>?_⟩;obtain⟨a,e,hl,hc⟩:=h.rd i;exact⟨a,e,Nat.lt_of_lt_of_le hl b.sz,λj k=>(b.cell (by rw[aL];exact hl) (by rw[aL];exact g a e)).trans (hc j k)⟩
abbrev pw (L:Nat) (c:Bool) (k n db N:Nat):Value:= .agg #[.int .i64 (L:Int),.bool c,.int .i64 (k:Int),.int .i64 (n:Int),.int .i64 (n:Int),.slice (some ⟨db,0,none⟩) N N]
abbrev bc:Array Value:=#[.int .i64 0,.bool false,.int .i64 0,.int .i64 0,.int .i64 0,.slice none 0 0]
def MS (d:World) (L:Nat) (c:Bool) (z e S P par:Nat) (A:Option Addr) (m f:Nat) (a a':Act) (W:World):Prop:=∃b,a'=(((((((((((((a.put (some 15) (aP L c)).put (some 17) (aP L c)).put (some 19) (.slice A m f)).put (some 20) (.int .i64 m)).put (some 16) (.int .i64 z)).put (some 18) (.int .i64 e)).put (some 21) (.int .i64 par)).put (some 22) (.tuple #[dH 2 S P par 1,.int .i64 0])).put (some 14) (.tuple #[dH 2 S P par 1,.int .i64 0])).put (some 23) (dH 2 S P par 1)).put (some 24) (.int .i64 0)).put (some 6) (.pointer (some ⟨b,0,none⟩))).put (some 7) (.int .i64 0))/\aa W b (gJ 2 S P par 1).toArray 91/\af d W/\d.heap.size<=b
def MH (d:World) (f L:Nat) (c:Bool) (n C e:Nat) (a a':Act) (W:World):Prop:=∃b,a'=((((((a.put (some 64) (aP L c)).put (some 66) (.pointer (some ⟨f,1,none⟩))).put (some 67) (.bool c)).put (some 65) (.int .i64 n)).put (some 68) (bO n c C e)).put (some 11) (.pointer (some ⟨b,0,none⟩)))/\aa W b (aS n c C e).toList.toArray 71/\af d W/\d.heap.size<=b
theorem xw (L:Nat) (c:Bool) (f:List Nat) (A:Option Addr) (m bf:Nat) (w:World) (x:1<=L) (D:L<=32) (hc:c=true->L<=4) (bi:ao (2^aq L) f) (gc:1<=f.length) (ge:f.length<=gj c) (u:f.length<ay L c) (hs:SR vN 0 w A m bf f):
 Calls Tryz.prog 35 #[aP L c,.slice A m bf] w λe w'=>∃db N,N=ai L c* ai L c/\e= .returned (.tuple #[pw L c m (ai L c) db N,.int .i64 0])/\bu w' db (eo L c f)/\w.heap.size<=db/\Below w.heap.size w w':=by
 have ck:m=f.length:=hs.hn;have k0:RD w A (zl f):=by
  obtain⟨e9,fb,M,e,-,-,dx⟩:=SG.rd hs.sg;injection e with e1 e2 e3;rw[e1];exact dx
 have n5:=tj (c:=c) x D hc;have n6:=fu L;have n7:=jg (c:=c) x D;have bt:=ld L c x D;have r5:=Ep c;have v1:=qF (c:=c) D;have fc:=tS (c:=c) bi;have n8:=mZ (c:=c) bi oO;have k1:=uF (c:=c) bi oO;have n9:=rG L c;have ob:=pJ L c;have oi:=room_le (c:=c) D;have k2:fJ 2 (2^aq L) (jU (aq L)) (ay L c-f.length) 1:=Fo (kW L) oO oO;have sb:f.length+(ay L c-f.length)=ay L c:=oO;have d3:Hid (∀W,Calls Tryz.prog 33 #[aP L c] W λe w'=>e= .returned (.int .i64 ((aq L:Nat):Int))/\Below W.heap.size W w'):=λW=>lf L c W D;have d4:Hid (∀W,Calls Tryz.prog 44 #[aP L c] W λe w'=>e= .returned (.int .i64 ((ay L c:Nat):Int))/\Below W.heap.size W w'):=λW=>j7 L c W D;have gg:Hid (∀W,Calls Tryz.prog 36 #[aP L c] W λe w'=>e= .returned (.int .i64 ((ai L c:Nat):Int))/\Below W.heap.size W w'):=λW=>jX L c W D;have d5:Hid (∀W,Calls Tryz.prog 39 #[.int .i64 ((ai L c:Nat):Int),.bool c] W λe w'=>e= .returned (bO (ai L c) c (aT L c) (aM c))/\Below W.heap.size W w'):=λW=>dK (ai L c) c W oO oO;have oj:Hid (∀W,Calls Tryz.prog 83 #[bO (ai L c) c (aT L c) (aM c)] W λe w'=>∃db N,N=ai L c* ai L c/\e= .returned (ER (ai L c) (ai L c) db N)/\W.heap.size<=db/\bu w' db (jY (ai L c) (aT L c) c)/\Below W.heap.size W w'):=λW=>Gd (ai L c) (aT L c) (aM c) c W rfl oO oO oO;have ol:Hid (∀W,Calls Tryz.prog 46 #[aP L c] W λe w'=>∃v,e= .returned v/\fM W.heap.size w' v (bp L c)/\Below W.heap.size W w'):=λW=>vt L c W D;have oo:Hid (∀W,Calls Tryz.prog 43 #[bO (ai L c) c (aT L c) (aM c)] W λe w'=>∃v,e= .returned v/\fM W.heap.size w' v (cn (aT L c) c)/\Below W.heap.size W w'):=λW=>j5 (ai L c) (aT L c) c W oO oO;have op:Hid (∀W,Calls Tryz.prog 23 #[.int .i64 L,.int .i64 m,.bool c] W (RT vB false W (ka L c f.length,0))):=λW=>by rw[ck];exact JW L f.length c W x D hc gc ge
 have bv:Hid (∀W,Calls Tryz.prog 61 #[.int .i64 ((aq L:Nat):Int),.int .i64 ((ay L c-f.length:Nat):Int)] W λe w'=>e= .returned (.tuple #[dH 2 (2^aq L) (jU (aq L)) (ay L c-f.length) 1,.int .i64 0])/\Below W.heap.size W w'):=λW=>Bi (aq L) (ay L c-f.length) W (kW L) oO oO;have gi:Hid (∀W,RD W A (zl f)->Calls Tryz.prog 62 #[dH 2 (2^aq L) (jU (aq L)) (ay L c-f.length) 1,.slice A m bf] W (kS W (zl (mL L c f),0))):=λW dx=>uY 2 (2^aq L) (jU (aq L)) (ay L c-f.length) 1 f m A bf W k2 ck bi oO oO dx;have os:Hid (∀W A m M,SR vN 0 W A m M (mL L c f)->Calls Tryz.prog 63 #[.slice A m M,.int .i64 ((aq L:Nat):Int)] W (RT vB false W (lV L c f,0))):=by
  show∀W A m M,_->_;intro W A m M go;have t0:=go.hn;exact nJ A m M (aq L) _ W oO oO oO fc.lt go
 have k3:∀p∈bp L c,bW (ai L c) p<ai L c* ai L c:=λp O=>iF (jk D O).1 (jk D O).2;have k4:∀p∈cn (aT L c) c,bW (ai L c) p<ai L c* ai L c:=λp O=>by have:=kj (c:=c) (C:=aT L c) oO O;exact iF oO oO
 have k5:Hid (∀p∈(bp L c).drop ((bp L c).length-(lV L c f).length),bW (ai L c) p<(jY (ai L c) (aT L c) c).length):=by show∀p∈_,_;intro p O;rw[kI];exact k3 p (List.mem_of_mem_drop O)
 have sd:Hid (∀l:List Bool,l.length=ai L c* ai L c->∀p∈cn (aT L c) c,bW (ai L c) p<l.length):=by show∀l:List Bool,_;intro l hl p O;rw[hl];exact k4 p O
 have gp:Hid (wrL (ai L c) (wrL (ai L c) (jY (ai L c) (aT L c) c) ((bp L c).drop ((bp L c).length-(lV L c f).length)) (lV L c f)) (cn (aT L c) c) (ka L c f.length)=eo L c f):=rfl;have gq:=Lib.hid (kI (ai L c) (aT L c) c);have gs:=Lib.hid (λd ps mo=>dV (ai L c) d ps mo);have gt:Hid (((bp L c).drop ((bp L c).length-(lV L c f).length)).length=(lV L c f).length):=by show _=_;rw[List.length_drop];omega
 have ot:Hid ((cn (aT L c) c).length=(ka L c f.length).length):=by show _=_;rw[p8,eS]
 have sm:Hid (1<=(ka L c f.length).length):=by show _<=_;rw[p8];split<;>omega
 have k7:1<=(lV L c f).length:=by rw[k1];exact Nat.mul_pos oO oO
 have sn:=Lib.hid k7;have gv:(lV L c f).length<=(bp L c).length:=oO;have sp:(bp L c).length<=20000:=oO;have gw:ai L c<=161:=bt.2;obtain⟨par,k9⟩:∃par,par=ay L c-f.length:=⟨_,rfl⟩;have tr:par+f.length=ay L c:=oO;rw[<-k9]at bv gi;clear fc n8 k1 n9 ob oi k2 sb n5 n7 r5 bi gc ge k3 k4 k9 k7 u bt x D hc;generalize eo L c f=dl at*;generalize mL L c f=t1 at*;generalize lV L c f=K at*;generalize ka L c f.length=msg at*;generalize bp L c=X at*;generalize ov:jY (ai L c) (aT L c) c=ab at*;clear ov;generalize cn (aT L c) c=er at*;generalize o0:2^aq L=S at*;generalize o1:jU (aq L)=P at*;clear o0 o1;generalize aq L=z at*;generalize ay L c=fd at*;generalize ai L c=n at*;generalize aT L c=C at*;generalize aM c=y at*;have v2:z<=12:=oO;have v3:(fd:Int)-(m:Int)=(par:Int):=oO;have v5:par<=4000:=oO;have v6:IntKind.i64.wrap (par:Int)=(par:Int):=aG _ oO oO;have ut:m<=4000:=oO;clear n6 tr;obtain⟨B,bx⟩:∃B,B=w.heap.size:=⟨_,rfl⟩;obtain⟨j,co⟩:∃j,j=w.heap.size+1:=⟨_,rfl⟩;obtain⟨a,a3⟩:∃a,a=(w.alloc (bE L c)).alloc (.cells bc 30):=⟨_,rfl⟩;have gx:Hid (Below w.heap.size w a):=by show Below _ _ _;rw[a3];exact ah (ax _ _) _
 have d6:Hid (aa a B #[.int .i64 L,.bool c] 60):=by
  show aa _ _ _ _;rw[a3];have x:aa (w.alloc (bE L c)) B #[.int .i64 L,.bool c] 60:=aa.new _ _ _ _ bx;exact x.below (ax _ _)
 have o2:Hid (aa a j bc 30):=by show aa _ _ _ _;rw[a3];exact aa.new _ _ _ _ (by simp[co])
 have d7:Hid (w.heap.size<=j/\B<j/\j<a.heap.size/\w.heap.size<=a.heap.size):=by show _/\_;rw[a3,co,bx];simp;omega
 have s:Hid (∀W,af a W->W.cell? ⟨B,0,none⟩=some (.int .i64 (L:Int))/\W.cell? ⟨B,1,none⟩=some (.bool c)):=λW Q=>⟨(d6.out.below Q).cell 0 _ rfl,(d6.out.below Q).cell 1 _ rfl⟩;have o3:=Lib.hid k0;clear k0 hs;have vq:=Lib.hid ck;clear ck;go_enter Tryz.func35,Tryz.ntmps35;go_wp2;simp only[<-co,<-a3];simp only[<-bx];clear a3 co;have vr:=Lib.hid bx;clear bx;have bz:Hid (Below a.heap.size a a.drew):=aj (Below.refl _ _);refine j6 (S:=af a) (.br [(false,0),(false,2),(false,4),(false,5)] [1,11] (λk=>if k=1 then .br [] [3,11] (λk=>if k=3 then .br [(false,6)] [7,11] (λk=>if k=7 then .last [(false,8),(false,9),(false,10),(true,11),(true,12),(false,13)]else .last [(true,7),(false,8),(false,9),(false,10),(true,12),(false,13)])else .last [(true,3),(false,6),(true,7),(false,8),(false,9),(false,10),(true,12),(false,13)])else .last [(true,1),(true,3),(false,6),(true,7),(false,8),(false,9),(false,10),(true,12),(false,13)])) (MS a L c z fd S P par A m bf) oK oK bz.out ?_ ?_
 ·simp only[wpTree,attachW,List.getElem?_cons_zero,List.getElem?_cons_succ]
  repeat refine zO s.out ?_
  refine ag ?_;intro k u;simp only[List.mem_cons,List.not_mem_nil,or_false]at u;rcases u with rfl|rfl
  ·simp only[reduceIte,Nat.reduceEqDiff,wpTree,attachW,List.getElem?_cons_zero,List.getElem?_cons_succ];refine zZ ?_;refine(d3.out _).mono ?_;rintro e dy ⟨rfl,hb⟩;have Y:Hid (af a dy):=ae bz.out hb;clear hb;refine⟨_,rfl,Y.out,jO ?_⟩;refine ag ?_
   (try simp only[reduceIte,Nat.reduceEqDiff,wpTree,attachW,List.getElem?_cons_zero,List.getElem?_cons_succ])
   refine ag ?_;intro k u;simp only[List.mem_cons,List.not_mem_nil,or_false]at u;rcases u with rfl|rfl
   ·simp only[reduceIte,Nat.reduceEqDiff,wpTree,attachW,List.getElem?_cons_zero,List.getElem?_cons_succ];refine zZ ?_;refine(d4.out _).mono ?_;rintro e dz ⟨rfl,hb⟩;have Z:Hid (af a dz):=ae Y.out hb;clear hb;refine⟨_,rfl,Z.out,jO ?_⟩;refine ag ?_
    (try simp only[reduceIte,Nat.reduceEqDiff,wpTree,attachW,List.getElem?_cons_zero,List.getElem?_cons_succ])
    repeat refine zO s.out ?_
    refine ag ?_;intro k u;simp only[List.mem_cons,List.not_mem_nil,or_false]at u;rcases u with rfl|rfl
    ·simp only[reduceIte,Nat.reduceEqDiff,wpTree,attachW,List.getElem?_cons_zero,List.getElem?_cons_succ];refine zZ ?_;refine(bv.out _).mono ?_;rintro e dE ⟨rfl,hb⟩;have ad:Hid (af a dE):=ae Z.out hb;clear hb;refine⟨_,rfl,ad.out,jO ?_⟩;refine ag ?_
     (try simp only[reduceIte,Nat.reduceEqDiff,wpTree,attachW,List.getElem?_cons_zero,List.getElem?_cons_succ])
     repeat refine zO s.out ?_
     obtain⟨d0,cp⟩:∃g,g=dE.alloc (.cells #[.int .i64 0,.int .i64 0,.int .i64 0,.int .i64 0,.int .i64 0] 91):=⟨_,rfl⟩;obtain⟨a0,al⟩:∃b,b=dE.heap.size:=⟨_,rfl⟩;have cq:Hid (af a d0):=by show Below _ _ _;rw[cp];exact ah ad.out _
     have fn:Hid (aa d0 a0 #[.int .i64 0,.int .i64 0,.int .i64 0,.int .i64 0,.int .i64 0] 91):=by show aa _ _ _ _;rw[cp,al];exact aa.new _ _ _ _ rfl
     have fo:Hid (a.heap.size<=a0):=by show _<=_;rw[al];exact ad.out.size
     refine' eT 91 rfl rfl _ tW (ah ad.out _) ?_;simp only[yQ,yU,yX,yY];rw[<-cp,<-al];clear cp al;obtain⟨fr,b1⟩:∃g,g=d0.setRow a0 (gJ 2 S P par 1).toArray:=⟨_,rfl⟩;have gy:Hid (af a fr):=by show Below _ _ _;rw[b1];exact below_setRow cq.out fo.out _
     have mp:Hid (aa fr a0 (gJ 2 S P par 1).toArray 91):=by show aa _ _ _ _;rw[b1];exact aa.set fn.out _
     refine fN 91 rfl _ _ rfl 91 a0 #[.int .i64 0,.int .i64 0,.int .i64 0,.int .i64 0,.int .i64 0] (gJ 2 S P par 1) fn.out rfl rfl Af rfl (by intro v r;simp only[List.mem_cons,List.not_mem_nil,or_false]at r;rcases r with rfl|rfl|rfl|rfl|rfl<;>rfl) (by rw[<-b1];exact gy.out) ?_;rw[<-b1];simp only[yQ,yU,yX,yY];clear b1
     repeat refine zO s.out ?_
     refine ag ?_;refine⟨a0,?_,mp.out,gy.out,fo.out⟩;simp only[yQ,yU,yX,yY]
    ·simp only[reduceIte,Nat.reduceEqDiff,wpTree,attachW,List.getElem?_cons_zero,List.getElem?_cons_succ];obtain⟨fv,cs⟩:∃g,g=dz.alloc (.cells #[.int .i64 0,.int .i64 0,.int .i64 0,.int .i64 0,.int .i64 0] 91):=⟨_,rfl⟩;obtain⟨a1,cv⟩:∃b,b=dz.heap.size:=⟨_,rfl⟩;have pb:Hid (af a fv):=by show Below _ _ _;rw[cs];exact ah Z.out _
     have ms:Hid (aa fv a1 #[.int .i64 0,.int .i64 0,.int .i64 0,.int .i64 0,.int .i64 0] 91):=by show aa _ _ _ _;rw[cs,cv];exact aa.new _ _ _ _ rfl
     have fx:Hid (a.heap.size<=a1):=by show _<=_;rw[cv];exact Z.out.size
     refine' eT 91 rfl rfl _ tW (ah Z.out _) ?_;simp only[yQ,yU,yX,yY];rw[<-cs,<-cv];clear cs cv;refine ag ?_
     (try simp only[reduceIte,Nat.reduceEqDiff,wpTree,attachW,List.getElem?_cons_zero,List.getElem?_cons_succ])
     refine zZ ?_;refine(bv.out _).mono ?_;rintro e fz ⟨rfl,hb⟩;have gz:Hid (af a fz):=ae pb.out hb;have f0:=Lib.hid (ms.out.below hb);clear hb;refine⟨_,rfl,gz.out,jO ?_⟩
     repeat refine zO s.out ?_
     obtain⟨f1,b2⟩:∃g,g=fz.setRow a1 (gJ 2 S P par 1).toArray:=⟨_,rfl⟩;have gC:Hid (af a f1):=by show Below _ _ _;rw[b2];exact below_setRow gz.out fx.out _
     have mt:Hid (aa f1 a1 (gJ 2 S P par 1).toArray 91):=by show aa _ _ _ _;rw[b2];exact aa.set f0.out _
     refine fN 91 rfl _ _ rfl 91 a1 #[.int .i64 0,.int .i64 0,.int .i64 0,.int .i64 0,.int .i64 0] (gJ 2 S P par 1) f0.out rfl rfl Af rfl (by intro v r;simp only[List.mem_cons,List.not_mem_nil,or_false]at r;rcases r with rfl|rfl|rfl|rfl|rfl<;>rfl) (by rw[<-b2];exact gC.out) ?_;rw[<-b2];simp only[yQ,yU,yX,yY];clear b2
     repeat refine zO s.out ?_
     refine ag ?_;refine⟨a1,?_,mt.out,gC.out,fx.out⟩;simp only[yQ,yU,yX,yY]
   ·simp only[reduceIte,Nat.reduceEqDiff,wpTree,attachW,List.getElem?_cons_zero,List.getElem?_cons_succ];obtain⟨f2,cx⟩:∃g,g=dy.alloc (.cells #[.int .i64 0,.int .i64 0,.int .i64 0,.int .i64 0,.int .i64 0] 91):=⟨_,rfl⟩;obtain⟨a2,c2⟩:∃b,b=dy.heap.size:=⟨_,rfl⟩;have pf:Hid (af a f2):=by show Below _ _ _;rw[cx];exact ah Y.out _
    have m0:Hid (aa f2 a2 #[.int .i64 0,.int .i64 0,.int .i64 0,.int .i64 0,.int .i64 0] 91):=by show aa _ _ _ _;rw[cx,c2];exact aa.new _ _ _ _ rfl
    have f3:Hid (a.heap.size<=a2):=by show _<=_;rw[c2];exact Y.out.size
    refine' eT 91 rfl rfl _ tW (ah Y.out _) ?_;simp only[yQ,yU,yX,yY];rw[<-cx,<-c2];clear cx c2;refine ag ?_
    (try simp only[reduceIte,Nat.reduceEqDiff,wpTree,attachW,List.getElem?_cons_zero,List.getElem?_cons_succ])
    refine zZ ?_;refine(d4.out _).mono ?_;rintro e pi ⟨rfl,hb⟩;have bd:Hid (af a pi):=ae pf.out hb;have pl:=Lib.hid (m0.out.below hb);clear hb;refine⟨_,rfl,bd.out,jO ?_⟩
    repeat refine zO s.out ?_
    refine zZ ?_;refine(bv.out _).mono ?_;rintro e gD ⟨rfl,hb⟩;have c3:Hid (af a gD):=ae bd.out hb;have gN:=Lib.hid (pl.out.below hb);clear hb;refine⟨_,rfl,c3.out,jO ?_⟩
    repeat refine zO s.out ?_
    obtain⟨g0,b5⟩:∃g,g=gD.setRow a2 (gJ 2 S P par 1).toArray:=⟨_,rfl⟩;have c4:Hid (af a g0):=by show Below _ _ _;rw[b5];exact below_setRow c3.out f3.out _
    have pm:Hid (aa g0 a2 (gJ 2 S P par 1).toArray 91):=by show aa _ _ _ _;rw[b5];exact aa.set gN.out _
    refine fN 91 rfl _ _ rfl 91 a2 #[.int .i64 0,.int .i64 0,.int .i64 0,.int .i64 0,.int .i64 0] (gJ 2 S P par 1) gN.out rfl rfl Af rfl (by intro v r;simp only[List.mem_cons,List.not_mem_nil,or_false]at r;rcases r with rfl|rfl|rfl|rfl|rfl<;>rfl) (by rw[<-b5];exact c4.out) ?_;rw[<-b5];simp only[yQ,yU,yX,yY];clear b5
    repeat refine zO s.out ?_
    refine ag ?_;refine⟨a2,?_,pm.out,c4.out,f3.out⟩;simp only[yQ,yU,yX,yY]
  ·simp only[reduceIte,Nat.reduceEqDiff,wpTree,attachW,List.getElem?_cons_zero,List.getElem?_cons_succ];obtain⟨g1,c5⟩:∃g,g=a.drew.alloc (.cells #[.int .i64 0,.int .i64 0,.int .i64 0,.int .i64 0,.int .i64 0] 91):=⟨_,rfl⟩;obtain⟨a4,ap⟩:∃b,b=a.drew.heap.size:=⟨_,rfl⟩;have b6:Hid (af a g1):=by show Below _ _ _;rw[c5];exact ah bz.out _
   have pp:Hid (aa g1 a4 #[.int .i64 0,.int .i64 0,.int .i64 0,.int .i64 0,.int .i64 0] 91):=by show aa _ _ _ _;rw[c5,ap];exact aa.new _ _ _ _ rfl
   have g2:Hid (a.heap.size<=a4):=by show _<=_;rw[ap];exact bz.out.size
   refine' eT 91 rfl rfl _ tW (ah bz.out _) ?_;simp only[yQ,yU,yX,yY];rw[<-c5,<-ap];clear c5 ap;refine ag ?_
   (try simp only[reduceIte,Nat.reduceEqDiff,wpTree,attachW,List.getElem?_cons_zero,List.getElem?_cons_succ])
   refine zZ ?_;refine(d3.out _).mono ?_;rintro e pu ⟨rfl,hb⟩;have la:Hid (af a pu):=ae b6.out hb;have pv:=Lib.hid (pp.out.below hb);clear hb;refine⟨_,rfl,la.out,jO ?_⟩;refine zZ ?_;refine(d4.out _).mono ?_;rintro e p0 ⟨rfl,hb⟩;have lc:Hid (af a p0):=ae la.out hb;have p3:=Lib.hid (pv.out.below hb);clear hb;refine⟨_,rfl,lc.out,jO ?_⟩
   repeat refine zO s.out ?_
   refine zZ ?_;refine(bv.out _).mono ?_;rintro e g3 ⟨rfl,hb⟩;have li:Hid (af a g3):=ae lc.out hb;have g4:=Lib.hid (p3.out.below hb);clear hb;refine⟨_,rfl,li.out,jO ?_⟩
   repeat refine zO s.out ?_
   obtain⟨g5,b7⟩:∃g,g=g3.setRow a4 (gJ 2 S P par 1).toArray:=⟨_,rfl⟩;have ll:Hid (af a g5):=by show Below _ _ _;rw[b7];exact below_setRow li.out g2.out _
   have p4:Hid (aa g5 a4 (gJ 2 S P par 1).toArray 91):=by show aa _ _ _ _;rw[b7];exact aa.set g4.out _
   refine fN 91 rfl _ _ rfl 91 a4 #[.int .i64 0,.int .i64 0,.int .i64 0,.int .i64 0,.int .i64 0] (gJ 2 S P par 1) g4.out rfl rfl Af rfl (by intro v r;simp only[List.mem_cons,List.not_mem_nil,or_false]at r;rcases r with rfl|rfl|rfl|rfl|rfl<;>rfl) (by rw[<-b7];exact ll.out) ?_;rw[<-b7];simp only[yQ,yU,yX,yY];clear b7
   repeat refine zO s.out ?_
   refine ag ?_;refine⟨a4,?_,p4.out,ll.out,g2.out⟩;simp only[yQ,yU,yX,yY]
 rintro a' bo ⟨bq,rfl,g6,g7,p5⟩;have b3:=Lib.hid g6;have Y:=Lib.hid g7;clear g6 g7 p5;simp only[yQ,yU,yX,yY];have m1:bo.cell? ⟨bq,0,none⟩=some (.int .i64 2):=b3.out.cell 0 _ rfl;have m2:bo.cell? ⟨bq,1,none⟩=some (.int .i64 S):=b3.out.cell 1 _ rfl;have m3:bo.cell? ⟨bq,2,none⟩=some (.int .i64 P):=b3.out.cell 2 _ rfl;have m4:bo.cell? ⟨bq,3,none⟩=some (.int .i64 par):=b3.out.cell 3 _ rfl;have m5:bo.cell? ⟨bq,4,none⟩=some (.int .i64 1):=b3.out.cell 4 _ rfl
 go_wp2_with(first
  |(go_at_call 62;refine(gi.out _ (o3.out.below (ae gx.out Y.out))).mono ?_;rintro e m6 ⟨t2,rfl,g8,g9⟩;obtain⟨t3,n2,f4,rfl,-,p6,-⟩:=aB.Kj g8;have qi:=Lib.hid p6;have Z:Hid (Below a.heap.size a m6):=ae Y.out g9;clear g8 g9 m1 m2 m3 m4 m5;obtain⟨T,U⟩:=s.out _ Z.out)
  |(go_at_call 33;refine(d3.out _).mono ?_;rintro e m7 ⟨rfl,d8⟩;have ad:Hid (Below a.heap.size a m7):=ae Z.out d8;have qr:=Lib.hid (qi.out.below d8);clear d8 T U;obtain⟨T,U⟩:=s.out _ ad.out)
  |(go_at_call 63;refine(os.out _ _ _ _ qr.out).mono ?_;rintro e m8 ⟨v4,rfl,ib,al⟩;obtain⟨d1,n4,ce,rfl,qs⟩:=ib.parts;have q0:=Lib.hid qs;have cq:Hid (Below a.heap.size a m8):=ae ad.out al;clear ib al T U;obtain⟨T,U⟩:=s.out _ cq.out)
  |(go_at_call 23;refine(op.out _).mono ?_;rintro e i ⟨t4,rfl,ih,d9⟩;obtain⟨d2,f5,ch,rfl,q1⟩:=ih.parts;have ii:=Lib.hid q1;have ea:=Lib.hid (q0.out.below d9);have bd:Hid (Below a.heap.size a i):=ae cq.out d9;clear ih d9 T U))
 have b4:Hid (Below i.heap.size i i.drew):=aj (Below.refl _ _);have q2:Hid (∀W,af i W->W.cell? ⟨B,0,none⟩=some (.int .i64 (L:Int))/\W.cell? ⟨B,1,none⟩=some (.bool c)):=λW Q=>s.out W (ae bd.out Q);refine j6 (S:=af i) (.br [(false,0),(false,2),(false,3)] [1,5] (λk=>if k=1 then .br [] [4,5] (λk=>if k=4 then .last [(true,5),(true,6)]else .last [(true,4),(true,6)])else .last [(true,1),(true,4),(true,6)])) (MH i B L c n C y) oK oK b4.out ?_ ?_
 ·simp only[wpTree,attachW,List.getElem?_cons_zero,List.getElem?_cons_succ]
  repeat refine zO q2.out ?_
  refine ag ?_;intro k u;simp only[List.mem_cons,List.not_mem_nil,or_false]at u;rcases u with rfl|rfl
  ·simp only[reduceIte,Nat.reduceEqDiff,wpTree,attachW,List.getElem?_cons_zero,List.getElem?_cons_succ];refine zZ ?_;refine(gg.out _).mono ?_;rintro e ec ⟨rfl,hb⟩;have b8:Hid (af i ec):=ae b4.out hb;clear hb;refine⟨_,rfl,b8.out,jO ?_⟩;refine ag ?_
   (try simp only[reduceIte,Nat.reduceEqDiff,wpTree,attachW,List.getElem?_cons_zero,List.getElem?_cons_succ])
   refine ag ?_;intro k u;simp only[List.mem_cons,List.not_mem_nil,or_false]at u;rcases u with rfl|rfl
   ·simp only[reduceIte,Nat.reduceEqDiff,wpTree,attachW,List.getElem?_cons_zero,List.getElem?_cons_succ];refine zZ ?_;refine(d5.out _).mono ?_;rintro e ed ⟨rfl,hb⟩;have c6:Hid (af i ed):=ae b8.out hb;clear hb;refine⟨_,rfl,c6.out,jO ?_⟩;refine ag ?_
    (try simp only[reduceIte,Nat.reduceEqDiff,wpTree,attachW,List.getElem?_cons_zero,List.getElem?_cons_succ])
    obtain⟨ef,c7⟩:∃g,g=ed.alloc (.cells #[.int .i64 0,.bool false,.int .i64 0,.int .i64 0] 71):=⟨_,rfl⟩;obtain⟨a5,c8⟩:∃b,b=ed.heap.size:=⟨_,rfl⟩;have st:Hid (af i ef):=by show Below _ _ _;rw[c7];exact ah c6.out _
    have io:Hid (aa ef a5 #[.int .i64 0,.bool false,.int .i64 0,.int .i64 0] 71):=by show aa _ _ _ _;rw[c7,c8];exact aa.new _ _ _ _ rfl
    have ip:Hid (i.heap.size<=a5):=by show _<=_;rw[c8];exact c6.out.size
    refine' eT 71 rfl rfl _ xU (ah c6.out _) ?_;simp only[yQ,yU,yX,yY];rw[<-c7,<-c8];clear c7 c8;obtain⟨it,b9⟩:∃g,g=ef.setRow a5 ((aS n c C y).toList).toArray:=⟨_,rfl⟩;have lm:Hid (af i it):=by show Below _ _ _;rw[b9];exact below_setRow st.out ip.out _
    have q3:Hid (aa it a5 ((aS n c C y).toList).toArray 71):=by show aa _ _ _ _;rw[b9];exact aa.set io.out _
    refine fN 71 rfl _ _ rfl 71 a5 #[.int .i64 0,.bool false,.int .i64 0,.int .i64 0] ((aS n c C y).toList) io.out rfl rfl pn rfl (by intro v r;simp only[List.mem_cons,List.not_mem_nil,or_false]at r;rcases r with rfl|rfl|rfl|rfl<;>rfl) (by rw[<-b9];exact lm.out) ?_;rw[<-b9];simp only[yQ,yU,yX,yY];clear b9;refine ag ?_;refine⟨a5,?_,q3.out,lm.out,ip.out⟩;simp only[yQ,yU,yX,yY]
   ·simp only[reduceIte,Nat.reduceEqDiff,wpTree,attachW,List.getElem?_cons_zero,List.getElem?_cons_succ];obtain⟨iv,c9⟩:∃g,g=ec.alloc (.cells #[.int .i64 0,.bool false,.int .i64 0,.int .i64 0] 71):=⟨_,rfl⟩;obtain⟨a6,da⟩:∃b,b=ec.heap.size:=⟨_,rfl⟩;have sv:Hid (af i iv):=by show Below _ _ _;rw[c9];exact ah b8.out _
    have q4:Hid (aa iv a6 #[.int .i64 0,.bool false,.int .i64 0,.int .i64 0] 71):=by show aa _ _ _ _;rw[c9,da];exact aa.new _ _ _ _ rfl
    have ix:Hid (i.heap.size<=a6):=by show _<=_;rw[da];exact b8.out.size
    refine' eT 71 rfl rfl _ xU (ah b8.out _) ?_;simp only[yQ,yU,yX,yY];rw[<-c9,<-da];clear c9 da;refine ag ?_
    (try simp only[reduceIte,Nat.reduceEqDiff,wpTree,attachW,List.getElem?_cons_zero,List.getElem?_cons_succ])
    refine zZ ?_;refine(d5.out _).mono ?_;rintro e i0 ⟨rfl,hb⟩;have ls:Hid (af i i0):=ae sv.out hb;have i1:=Lib.hid (q4.out.below hb);clear hb;refine⟨_,rfl,ls.out,jO ?_⟩;obtain⟨i2,ca⟩:∃g,g=i0.setRow a6 ((aS n c C y).toList).toArray:=⟨_,rfl⟩;have lv:Hid (af i i2):=by show Below _ _ _;rw[ca];exact below_setRow ls.out ix.out _
    have q5:Hid (aa i2 a6 ((aS n c C y).toList).toArray 71):=by show aa _ _ _ _;rw[ca];exact aa.set i1.out _
    refine fN 71 rfl _ _ rfl 71 a6 #[.int .i64 0,.bool false,.int .i64 0,.int .i64 0] ((aS n c C y).toList) i1.out rfl rfl pn rfl (by intro v r;simp only[List.mem_cons,List.not_mem_nil,or_false]at r;rcases r with rfl|rfl|rfl|rfl<;>rfl) (by rw[<-ca];exact lv.out) ?_;rw[<-ca];simp only[yQ,yU,yX,yY];clear ca;refine ag ?_;refine⟨a6,?_,q5.out,lv.out,ix.out⟩;simp only[yQ,yU,yX,yY]
  ·simp only[reduceIte,Nat.reduceEqDiff,wpTree,attachW,List.getElem?_cons_zero,List.getElem?_cons_succ];obtain⟨i3,dd⟩:∃g,g=i.drew.alloc (.cells #[.int .i64 0,.bool false,.int .i64 0,.int .i64 0] 71):=⟨_,rfl⟩;obtain⟨a7,de⟩:∃b,b=i.drew.heap.size:=⟨_,rfl⟩;have sy:Hid (af i i3):=by show Below _ _ _;rw[dd];exact ah b4.out _
   have rb:Hid (aa i3 a7 #[.int .i64 0,.bool false,.int .i64 0,.int .i64 0] 71):=by show aa _ _ _ _;rw[dd,de];exact aa.new _ _ _ _ rfl
   have i4:Hid (i.heap.size<=a7):=by show _<=_;rw[de];exact b4.out.size
   refine' eT 71 rfl rfl _ xU (ah b4.out _) ?_;simp only[yQ,yU,yX,yY];rw[<-dd,<-de];clear dd de;refine ag ?_
   (try simp only[reduceIte,Nat.reduceEqDiff,wpTree,attachW,List.getElem?_cons_zero,List.getElem?_cons_succ])
   refine zZ ?_;refine(gg.out _).mono ?_;rintro e rc ⟨rfl,hb⟩;have lw:Hid (af i rc):=ae sy.out hb;have rd:=Lib.hid (rb.out.below hb);clear hb;refine⟨_,rfl,lw.out,jO ?_⟩;refine zZ ?_;refine(d5.out _).mono ?_;rintro e i5 ⟨rfl,hb⟩;have lx:Hid (af i i5):=ae lw.out hb;have i6:=Lib.hid (rd.out.below hb);clear hb;refine⟨_,rfl,lx.out,jO ?_⟩;obtain⟨i7,cb⟩:∃g,g=i5.setRow a7 ((aS n c C y).toList).toArray:=⟨_,rfl⟩;have ly:Hid (af i i7):=by show Below _ _ _;rw[cb];exact below_setRow lx.out i4.out _
   have rf:Hid (aa i7 a7 ((aS n c C y).toList).toArray 71):=by show aa _ _ _ _;rw[cb];exact aa.set i6.out _
   refine fN 71 rfl _ _ rfl 71 a7 #[.int .i64 0,.bool false,.int .i64 0,.int .i64 0] ((aS n c C y).toList) i6.out rfl rfl pn rfl (by intro v r;simp only[List.mem_cons,List.not_mem_nil,or_false]at r;rcases r with rfl|rfl|rfl|rfl<;>rfl) (by rw[<-cb];exact ly.out) ?_;rw[<-cb];simp only[yQ,yU,yX,yY];clear cb;refine ag ?_;refine⟨a7,?_,rf.out,ly.out,i4.out⟩;simp only[yQ,yU,yX,yY]
 rintro a' a8 ⟨F,rfl,i8,es,rg⟩;have a9:Hid (aa a8 F (aS n c C y) 71):=i8;have et:=Lib.hid es;have c3:Hid (Below a.heap.size a a8):=ae bd.out es;clear i8 es rg;simp only[yQ,yU,yX,yY];obtain⟨ac,eh⟩:∃ac,ac=X.length:=⟨_,rfl⟩;rw[<-eh]at gv sp;have ei:=Lib.hid eh;clear eh;have ts:n4=K.length:=ea.out.hn;obtain⟨q,hq⟩:∃q,q=ac-K.length:=⟨_,rfl⟩;have t5:IntKind.i64.wrap ((ac:Int)-(n4:Int))=(q:Int):=by rw[aG _ oO oO];omega
 have vs:(ac:Int)-(n4:Int)=(q:Int):=oO;have i9:q<=ac:=oO;have vv:IntKind.i64.wrap (q:Int)=(q:Int):=aG _ oO oO;have m9:Hid (X.length-K.length=q):=by show _=_;rw[<-ei.out,hq]
 clear hq ts gv;have f6:a8.cell? ⟨F,0,none⟩=some (.int .i64 n):=a9.out.cell 0 _ rfl;have f7:a8.cell? ⟨F,1,none⟩=some (.bool c):=a9.out.cell 1 _ rfl;have f8:a8.cell? ⟨F,2,none⟩=some (.int .i64 C):=a9.out.cell 2 _ rfl;have f9:a8.cell? ⟨F,3,none⟩=some (.int .i64 y):=a9.out.cell 3 _ rfl
 go_wp2_with(first
  |(go_at_call 83;refine(oj.out _).mono ?_;rintro e am ⟨db,N,gb,rfl,jp,l0,ew⟩;have ek:=Lib.hid gb;have rl:=Lib.hid jp;have l1:=Lib.hid l0;have dn:=Lib.hid ew;have c4:Hid (Below a.heap.size a am):=ae c3.out ew;clear gb jp l0 ew f6 f7 f8 f9;have jr:Hid (Below a.heap.size a (am.alloc (.cells (pK n n db N).toArray 28))):=ah c4.out _;obtain⟨T,U⟩:=s.out _ jr.out)
  |(go_at_call 46;refine(ol.out _).mono ?_;rintro e o ⟨vG,rfl,ds,ap⟩;obtain⟨⟨ro,rs,rfl,s0,-,-⟩,-⟩:=id ds;rw[<-ei.out]at ds s0;have s1:=Lib.hid ds;have av:=Lib.hid ap;clear ds ap T U))
 rw[<-ei.out];have b6:Hid (Below a.heap.size a o):=ae jr.out av.out;obtain⟨V,el⟩:∃V,V=am.heap.size:=⟨_,rfl⟩;simp only[<-el];have rt:Hid (aa o V (pK n n db N).toArray 28):=by show aa _ _ _ _;exact(aa.new am _ _ _ el).below av.out
 have G:Hid (B≠db/\j≠db/\F≠db/\V≠db/\B<o.heap.size/\j<o.heap.size/\F<o.heap.size/\V<o.heap.size/\db<o.heap.size/\w.heap.size<=db/\i.heap.size<=db/\db<am.heap.size+1/\w.heap.size<=o.heap.size):=by
  show _/\_;have t6:=d7.out;have t7:=au a9.out;have t8:=rl.out;have t9:=et.out.size;have ub:=bd.out.size;have ue:=dn.out.size;have na:=av.out.size;have ul:=au l1.out;simp at na;omega
 have s2:Hid (bu o db ab):=(l1.out.below (ax _ _)).below av.out;have s4:Hid (aa o F (aS n c C y) 71):=((a9.out.below dn.out).below (ax _ _)).below av.out;have tx:Hid (SR vB false o d1 n4 ce K):=(((ea.out.below et.out).below dn.out).below (ax _ _)).below av.out;have ty:Hid (SR vB false o d2 f5 ch msg):=(((ii.out.below et.out).below dn.out).below (ax _ _)).below av.out;have rx:Hid (∀E,d1=some E->E.block≠db):=by
  show∀E,_;intro E e;obtain⟨r0,J,ci,-⟩:=ea.out.rd sn.out;rw[e]at J;injection J with J;rw[J];have:=G.out.2.2.2.2.2.2.2.2.2.2.1;omega
 have j0:Hid (∀E,d2=some E->E.block≠db):=by
  show∀E,_;intro E e;obtain⟨r0,J,ci,-⟩:=ii.out.rd sm.out;rw[e]at J;injection J with J;rw[J];have:=G.out.2.2.2.2.2.2.2.2.2.2.1;omega
 have ta:Hid (db<(am.alloc (.cells (pK n n db N).toArray 28)).heap.size):=by show _<_;have:=G.out.2.2.2.2.2.2.2.2.2.2.2.1;simp;omega
 clear el;have em:Hid (∀W,aD db o W->(W.cell? ⟨B,0,none⟩=some (.int .i64 (L:Int))/\W.cell? ⟨B,1,none⟩=some (.bool c))/\(W.cell? ⟨F,0,none⟩=some (.int .i64 (n:Int))/\W.cell? ⟨F,1,none⟩=some (.bool c)/\W.cell? ⟨F,2,none⟩=some (.int .i64 (C:Int))/\W.cell? ⟨F,3,none⟩=some (.int .i64 (y:Int)))/\W.cell? ⟨V,0,none⟩=some (.int .i64 (n:Int))/\W.cell? ⟨V,1,none⟩=some (.int .i64 (n:Int))/\W.cell? ⟨V,2,none⟩=some (.slice (some ⟨db,0,none⟩) N N)):=by
  show∀W,_;intro W Q;have ci:=Q.row (d6.out.below b6.out) G.out.1;have x:=Q.row s4.out G.out.2.2.1;have bs:=Q.row rt.out G.out.2.2.2.1;exact⟨⟨ci.cell 0 _ rfl,ci.cell 1 _ rfl⟩,⟨x.cell 0 _ rfl,x.cell 1 _ rfl,x.cell 2 _ rfl,x.cell 3 _ rfl⟩,bs.cell 0 _ rfl,bs.cell 1 _ rfl,bs.cell 2 _ rfl⟩
 obtain⟨kc,kd,ks,bt⟩:∃e9 fb M,sliced ro q ac rs 2= .slice e9 fb M:=⟨_,_,_,rfl⟩;have l2:Hid (fM (am.alloc (.cells (pK n n db N).toArray 28)).heap.size o (.slice kc kd ks) (X.drop q)):=by
  show fM _ _ _ _;rw[<-bt];exact fM.from s1.out q i9
 rw[m9.out]at k5 gp gt;have ex:Hid (aD db o o.drew):=aD.below (aj (Below.refl _ _));have kw:N<=100000000:=by have:=ek.out;have:n* n<=161* 161:=Nat.mul_le_mul gw gw;omega
 have kz:Hid (N=ab.length):=by show _=_;rw[gq.out];exact ek.out
 refine yO (λW=>aD db o W) [1,2,3,4,5,6,7,9,0,8,10] ex.out ?_
 repeat refine zO em.out ?_
 refine' zQ rfl (Di rfl rfl q rfl i9 bt) ex.out ?_;refine zZ ?_;refine(yS n n db N n4 ce ab (X.drop q) K (.slice kc kd ks) d1 o.drew oO oO kz.out kw (s2.out.below (aj (Below.refl _ _))) (l2.out.1.below (aj (Below.refl _ _))) (λA m k E e1 e2=>by have x:=l2.out.2 A m k E e1 e2;have bs:=ta.out;omega) (tx.out.below (aj (Below.refl _ _))) rx.out gt.out k5.out).mono ?_;rintro e en ⟨rfl,mb,md⟩;have tb:=Lib.hid mb;have me:Hid (aD db o en):=ex.out.trans md;clear mb md;refine⟨_,rfl,me.out,jO ?_⟩;refine ag ?_;go_wp2;have ey:Hid (aD db o en.drew):=me.out.trans (aD.below (aj (Below.refl _ _)));have tg:Hid (N=(wrL n ab (X.drop q) K).length):=by show _=_;rw[gs.out];exact kz.out
 have r1:Hid (∀p∈er,bW n p<(wrL n ab (X.drop q) K).length):=sd.out _ (by rw[gs.out,gq.out]);refine yO (λW=>aD db o W) [1,2,4,0,3,5] ey.out ?_
 repeat refine zO em.out ?_
 refine zZ ?_;refine(oo.out _).mono ?_;rintro e eq ⟨v0,rfl,ez,eA⟩;obtain⟨⟨r2,r3,rfl,-,-⟩,-⟩:=id ez;have mk:=Lib.hid ez;have e0:Hid (aD db o eq):=ey.out.trans (aD.below eA);have tl:Hid (bu eq db (wrL n ab (X.drop q) K)):=(tb.out.below (aj (Below.refl _ _))).below eA;have tp:Hid (db<en.drew.heap.size):=Nat.lt_of_lt_of_le G.out.2.2.2.2.2.2.2.2.1 ey.out.sz;clear ez eA;refine⟨_,rfl,e0.out,jO ?_⟩;refine zZ ?_;refine(yS n n db N f5 ch (wrL n ab (X.drop q) K) er msg (.slice r2 er.length r3) d2 eq oO oO tg.out kw tl.out mk.out.1 (λA m k E e1 e2=>by have x:=mk.out.2 A m k E e1 e2;have bs:=tp.out;omega) (ty.out.MK e0.out j0.out) j0.out ot.out r1.out).mono ?_;rintro e t ⟨rfl,ml,mm⟩;have tq:Hid (bu t db dl):=by show bu _ _ _;rw[<-gp.out];exact ml
 have dv:Hid (aD db o t):=e0.out.trans mm;clear ml mm;refine⟨_,rfl,dv.out,jO ?_⟩;refine ag ?_;obtain⟨⟨T,U⟩,⟨f6,f7,f8,f9⟩,un,up,us⟩:=em.out t dv.out;have H:Hid (aa t j bc 30):=dv.out.row (o2.out.below b6.out) G.out.2.1;have c0:t.cell? ⟨j,0,none⟩=some (.int .i64 0):=H.out.cell 0 _ rfl;have c1:t.cell? ⟨j,1,none⟩=some (.bool false):=H.out.cell 1 _ rfl;have f4:t.cell? ⟨j,2,none⟩=some (.int .i64 0):=H.out.cell 2 _ rfl;have nb:t.cell? ⟨j,3,none⟩=some (.int .i64 0):=H.out.cell 3 _ rfl;have ce:t.cell? ⟨j,4,none⟩=some (.int .i64 0):=H.out.cell 4 _ rfl;have ch:t.cell? ⟨j,5,none⟩=some (.slice none 0 0):=H.out.cell 5 _ rfl;have nc:t.frozen? ⟨j,0,none⟩=false:=frozen_of_row _ _ _ _ _ H.out;have nl:t.frozen? ⟨j,1,none⟩=false:=frozen_of_row _ _ _ _ _ H.out;have no:t.frozen? ⟨j,2,none⟩=false:=frozen_of_row _ _ _ _ _ H.out;have np:t.frozen? ⟨j,3,none⟩=false:=frozen_of_row _ _ _ _ _ H.out;have nz:t.frozen? ⟨j,4,none⟩=false:=frozen_of_row _ _ _ _ _ H.out;have n0:t.frozen? ⟨j,5,none⟩=false:=frozen_of_row _ _ _ _ _ H.out;have r4:Hid (Below w.heap.size w t):=(gx.out.trans (b6.out.mono d7.out.2.2.2)).trans (dv.out.to G.out.2.2.2.2.2.2.2.2.2.1 G.out.2.2.2.2.2.2.2.2.2.2.2.2);have be:w.heap.size<=j:=d7.out.1;go_wp2;refine bodyPost_ret (v:= .tuple #[pw L c m n db N,.int .i64 0]) (by simp[results,Tryz.results35,go_sem,c0,c1,f4,nb,ce,ch,nc,nl,no,np,nz,n0]) rfl ⟨db,N,ek.out,rfl,?_,G.out.2.2.2.2.2.2.2.2.2.1,?_⟩
 ·have bb:db≠j:=(G.out.2.1).symm;exact aa.cg (aa.cg (aa.cg (aa.cg (aa.cg (aa.cg tq.out _ _ bb) _ _ bb) _ _ bb) _ _ bb) _ _ bb) _ _ bb
 ·exact(((((r4.out.setCell be _).setCell be _).setCell be _).setCell be _).setCell be _).setCell be _
noncomputable def gH (c:Bool) (b:List Bool):Int×Int×Int:=if b.length≠(e8 c+gB c+eF c* 4)then(0,0,7)else match kn c b with
 |none=>(0,0,17)
 |some q=>((q.1:Int),(q.2:Int),0)
theorem oZ.nice {s p par first:Nat} {l:List Nat} {w w':World} {e:Ending} (h:oZ s p par first l w e w'):Below w.heap.size w w'/\
 ((∃v A n c b a d,Hid (jV s p par first l (some v))/\e= .returned (.tuple #[.agg #[.slice A n c,.slice b a d],.int .i64 0])/\Hid (SR vN 0 w' A n c v)/\Hid (a=(dX l v).length))\/(Hid (jV s p par first l none)/\e= .returned (.tuple #[.agg #[bm,bm],.int .i64 17]))):=by
 refine⟨h.1,?_⟩;rcases h.2 with⟨v,V,j,f,rfl,g,i⟩|⟨f,rfl⟩
 ·obtain⟨A,n,c,rfl,-,hs,-⟩:=aB.Kj g;obtain⟨b,a,d,rfl,hn,-,-⟩:=aB.Kj i;exact .inl ⟨v,A,n,c,b,a,d,f,rfl,hs,hn⟩
 ·exact .inr ⟨f,rfl⟩
theorem nI (c:Bool) (b:List Bool) (A:Option Addr) (n t:Nat) (w:World) (hb:SR vB false w A n t b):Calls Tryz.prog 25 #[.slice A n t,.bool c] w (FQ w (gH c b).1 (gH c b).2.1 (gH c b).2.2):=by
 have C:Hid (n=b.length):=hb.hn;have dx:n<=9223372036854775807:=by have:=hb.hm;have:=hb.hc;unfold maxLen at*;omega
 have M:Hid (∀W,Calls Tryz.prog 58 #[.bool c] W λe w'=>e= .returned (.tuple #[.int .i64 ((e8 c:Nat):Int),.int .i64 ((gB c:Nat):Int),.int .i64 ((eF c:Nat):Int)])/\w'=W):=λW=>r9 c W;have a7:1<=e8 c/\e8 c<=11/\1<=gB c/\gB c<=11/\eF c<=6:=by cases c<;>decide
 by_cases s:n=e8 c+gB c+eF c* 4
 ·obtain⟨m,D⟩:∃m,m=gF c+eF c:=⟨_,rfl⟩;have F:n=m* 4:=by rw[s,D];cases c<;>rfl
  have N:b.length/4=m:=by rw[<-C.out,F];omega
  have dy:m<=15/\eF c<m/\e8 c+gB c<=m* 4:=by rw[D];cases c<;>decide
  have G:=dc b 4 m;have ac:=ni b 4 m;have H:gH c b=match(re 16 19 (eF c) 1 (bj b 4 m)).map (λv=>(numF (bH v 4) 0 (e8 c)+1,numF (bH v 4) (e8 c) (gB c)+1))with|none=>(0,0,17)|some q=>((q.1:Int),(q.2:Int),0):=by
   unfold gH;rw[if_neg (by rw[<-C.out];exactλh=>h s)];unfold kn;rw[N]
  have J:=Kg c;have a8:Hid (∀W,af w W->Calls Tryz.prog 60 #[.slice A n t,.int .i64 4,.bool false] W (RT vN 0 W (bj b 4 m,0))):=λW ad=>rI A n t 4 m b W oO oO F oO (hb.below ad);have a9:Hid (∀W,Calls Tryz.prog 61 #[.int .i64 4,.int .i64 ((eF c:Nat):Int)] W λe w'=>e= .returned (.tuple #[dH 2 16 19 (eF c) 1,.int .i64 0])/\Below W.heap.size W w'):=λW=>tG (eF c) W J;have bb:Hid (∀W A f d,SR vN 0 W A f d (bj b 4 m)->RD W A (zl (bj b 4 m))->Calls Tryz.prog 66 #[dH 2 16 19 (eF c) 1,.slice A f d,.slice none 0 0] W (oZ 16 19 (eF c) 1 (bj b 4 m) W)):=by
   show∀W A f d,_->_->_;intro W A f d hs al;have l:=hs.hn;have am:=l;rw[G]at am;exact uC 2 16 19 (eF c) 1 _ f A d W J l ac oO oO al
  have cb:Hid (∀v,jV 16 19 (eF c) 1 (bj b 4 m) (some v)->ao 16 v/\v.length=m):=by
   show∀v,_->_;intro v p;have L:=p.2 v rfl;exact⟨L.lt,by rw[L.ln,G]⟩
  have ce:Hid (∀v,jV 16 19 (eF c) 1 (bj b 4 m) (some v)->gH c b=(((numF (bH v 4) 0 (e8 c)+1:Nat):Int),((numF (bH v 4) (e8 c) (gB c)+1:Nat):Int),0)):=by
   show∀v,_->_;intro v p;rw[H,qB p];rfl
  have bd:Hid (jV 16 19 (eF c) 1 (bj b 4 m) none->gH c b=(0,0,17)):=by
   show _->_;intro p;rw[H,qB p];rfl
  have be:Hid (∀W A f d v,ao 16 v->v.length=m->SR vN 0 W A f d v->Calls Tryz.prog 63 #[.slice A f d,.int .i64 4] W (RT vB false W (bH v 4,0))):=by
   show∀W A f d v,_->_->_->_;intro W A f d v bf x hs;have l:=hs.hn;exact nJ A f d 4 v W oO oO oO bf hs
  have bi:Hid (∀W A g d (v:List Nat),v.length=m->SR vB false W A g d (bH v 4)->Calls Tryz.prog 67 #[.slice A g d,.int .i64 0,.int .i64 ((e8 c:Nat):Int)] W (λe w'=>e= .returned (.tuple #[.int .i64 ((numF (bH v 4) 0 (e8 c):Nat):Int),.int .i64 0])/\w'=W)):=by
   show∀W A g d v,_->_->_;intro W A g d v x hs;have l:=hs.hn;rw[jf,x]at l;exact yM A g d 0 (e8 c) _ W oO oO oO oO hs
  have ch:Hid (∀W A g d (v:List Nat),v.length=m->SR vB false W A g d (bH v 4)->Calls Tryz.prog 67 #[.slice A g d,.int .i64 ((e8 c:Nat):Int),.int .i64 ((gB c:Nat):Int)] W (λe w'=>e= .returned (.tuple #[.int .i64 ((numF (bH v 4) (e8 c) (gB c):Nat):Int),.int .i64 0])/\w'=W)):=by
   show∀W A g d v,_->_->_;intro W A g d v x hs;have l:=hs.hn;rw[jf,x]at l;exact yM A g d (e8 c) (gB c) _ W oO oO oO oO hs
  have O:Hid (∀(v:List Nat) (a k:Nat),k<=11->numF (bH v 4) a k<2048):=by
   show∀(v:List Nat) (a k:Nat),_->_;intro v a k ap;exact Nat.lt_of_lt_of_le (jh _ _ _) (Nat.pow_le_pow_right (n:=2) oO ap)
  have ci:((e8 c:Nat):Int)+((gB c:Nat):Int)+((eF c:Nat):Int)* 4=(n:Int):=oO;have ck:∀z:Int,z=(n:Int)->((n:Int)==z)=true:=λz h=>by rw[h];simp
  clear H N D F G ac J hb;generalize gH c b=av at*;generalize e8 c=lb at*;generalize gB c=db at*;generalize eF c=mp at*;generalize bj b 4 m=co at*;obtain⟨i,K⟩:∃i,i=lb+db:=⟨_,rfl⟩;obtain⟨j,o⟩:∃j,j=mp* 4:=⟨_,rfl⟩;have bo:(lb:Int)+(db:Int)=(i:Int):=oO;have bq:(mp:Int)* 4=(j:Int):=oO;have bs:(i:Int)+(j:Int)=(n:Int):=oO;have hq:=a7;clear K o ci ck s;go_enter Tryz.func25,Tryz.ntmps25
  go_wp2_with(first
   |(go_at_call 58;refine(M.out _).mono ?_;rintro e a0 ⟨rfl,r⟩;rw[r];clear r)
   |(go_at_call 60;refine(a8.out _ (Below.refl _ _)).mono ?_;rintro e a1 ⟨cp,rfl,o,P⟩;obtain⟨cq,n2,cs,rfl,-,bt,Q⟩:=o.rd;have bv:=Lib.hid bt;have bx:=Lib.hid Q;have bz:Hid (Below w.heap.size w a1):=P;clear o P Q)
   |(go_at_call 61;refine(a9.out _).mono ?_;rintro e a2 ⟨rfl,y⟩;have b1:Hid (Below w.heap.size w a2):=ae bz.out y;have b2:=Lib.hid (bv.out.below y);have b3:=Lib.hid (bx.out.below y);clear y)
   |(go_at_call 66;refine(bb.out _ _ _ _ (b2.out.below (ax _ _)) (b3.out.below (ax _ _))).mono ?_;rintro e a3 S;obtain⟨T,a4⟩:=oZ.nice S;clear S;have U:Hid (Below w.heap.size w a3):=ae (ah b1.out _) T;clear T;rcases a4 with⟨v,cv,cx,c2,c3,c4,cc,u,rfl,b4,de⟩|⟨u,rfl⟩)
    |(go_at_call 63;have B:=Lib.hid (cb.out v u.out);have a5:=Lib.hid (ce.out v u.out);refine(be.out _ _ _ _ v B.out.1 B.out.2 (b4.out.below (ax _ _))).mono ?_;rintro e E ⟨v6,rfl,V,X⟩;obtain⟨c5,c6,c7,rfl,b5⟩:=V.parts;have Y:=Lib.hid b5;have b6:Hid (Below w.heap.size w E):=ae (ah U.out _) X;clear V X;have dl:=O.out v 0 lb oO;have dn:=O.out v lb db oO;have b7:=Lib.hid (bi.out E _ _ _ v B.out.2 Y.out);have b8:=Lib.hid (ch.out E _ _ _ v B.out.2 Y.out);generalize numF (bH v 4) 0 lb=c8 at*;generalize numF (bH v 4) lb db=c9 at*)
    |(go_at_call 67;(with_reducible show Calls _ _ #[_,.int .i64 0,_] _ _);refine b7.out.mono ?_;rintro e da ⟨rfl,Z⟩;rw[Z];clear Z)
    |(go_at_call 67;refine b8.out.mono ?_;rintro e dd ⟨rfl,ab⟩;rw[ab];clear ab))
  ·go_ret3
   rw[a5.out];exact⟨rfl,b6.out⟩
  ·have b9:=Lib.hid (bd.out u.out);go_ret3
   rw[b9.out];exact⟨rfl,ah U.out _⟩
 ·have a6:Hid (gH c b=(0,0,7)):=by show _=_;unfold gH;rw[if_pos (by rw[<-C.out];exact s)]
  generalize gH c b=av at*;generalize e8 c=lb at*;generalize gB c=db at*;generalize eF c=mp at*;obtain⟨i,K⟩:∃i,i=lb+db:=⟨_,rfl⟩;obtain⟨j,o⟩:∃j,j=mp* 4:=⟨_,rfl⟩;obtain⟨s3,ca⟩:∃s3,s3=i+j:=⟨_,rfl⟩;have bo:(lb:Int)+(db:Int)=(i:Int):=oO;have bq:(mp:Int)* 4=(j:Int):=oO;have bs:(i:Int)+(j:Int)=(s3:Int):=oO;have ds:i<=22/\j<=24:=oO;have dv:((n:Int)==(s3:Int))=false:=by rw[beq_eq_false_iff_ne];omega
  clear K o ca s hb;go_enter Tryz.func25,Tryz.ntmps25;go_wp2_with(go_at_call 58;refine(M.out _).mono ?_;rintro e a0 ⟨rfl,r⟩;rw[r];clear r)
  go_ret3
  rw[a6.out];exact⟨rfl,Below.refl _ _⟩
abbrev cX (W H:Int) (A:Option Addr) (N a:Nat):Value:= .agg #[.int .i64 W,.int .i64 H,.slice A N a]
abbrev iX (W H:Int) (A:Option Addr) (N a:Nat):Array Value:=#[.int .i64 W,.int .i64 H,.slice A N a]
def l4 (n:Nat) (d:List Bool) (ps:List Pt) (j:Nat):List Bool:=(cE n d (ps.take j))++List.replicate (ps.length-j) false
theorem Jp (n:Nat) (d:List Bool) (ps:List Pt):l4 n d ps 0=List.replicate ps.length false:=by unfold l4 cE;simp
theorem LS (n:Nat) (d:List Bool) (ps:List Pt):l4 n d ps ps.length=cE n d ps:=by unfold l4;simp
theorem Ex {n:Nat} {d:List Bool} {ps:List Pt} {j:Nat} (h:j<=ps.length):(l4 n d ps j).length=ps.length:=by unfold l4 cE;simp;omega
theorem IK {n:Nat} {d:List Bool} {ps:List Pt} {j:Nat} (h:j<ps.length):cE n d (ps.take (j+1))=cE n d (ps.take j)++[d.getD (bW n (ps.getD j (0,0))) false]:=by
 unfold cE;rw[List.take_succ_eq_append_getElem h,List.map_append];simp[List.getD,h]
theorem Ii {n:Nat} {d:List Bool} {ps:List Pt} {j:Nat} (h:j<ps.length):(l4 n d ps j).set j (d.getD (bW n (ps.getD j (0,0))) false)=l4 n d ps (j+1):=by
 have e:List.replicate (ps.length-j) false=false::List.replicate (ps.length-(j+1)) false:=by rw[show ps.length-j=(ps.length-(j+1))+1 from by omega,List.replicate_succ]
 unfold l4;rw[IK h,e,List.set_append,if_neg (by unfold cE;simp;omega)];have e2:j-(cE n d (ps.take j)).length=0:=by unfold cE;simp;omega
 rw[e2,List.set_cons_zero];simp
theorem mF (n:Nat) (H:Int) (A:Option Addr) (N r:Nat) (d:List Bool) (ps:List Pt) (v:Value) (w:World) (hn:n<=4096) (co:N<=4194304) (P:SR vB false w A N r d) (bo:SP w v ps) (bz:ps.length<=100000) (B:∀p∈ps,p.1<=4096/\p.2<=4096/\bW n p<N):
 Calls Tryz.prog 42 #[cX n H A N r,v] w λe w'=>∃db k,e= .returned (.slice (some ⟨db,0,none⟩) k k)/\k=ps.length/\bu w' db (cE n d ps)/\Below w.heap.size w w':=by
 obtain⟨cp,c,rfl,al,b1,ad⟩:=bo;obtain⟨i,t⟩:∃i,i=ps.length:=⟨_,rfl⟩;rw[<-t]at al bz⊢;have V:=Lib.hid t;have bq:=Lib.hid ad;have bs:=Lib.hid P;have am:Hid (N=d.length):=P.hn;have b2:=Lib.hid B;have ck:Hid (∀j,j<i->(l4 n d ps j).set j (d.getD (bW n (ps.getD j (0,0))) false)=l4 n d ps (j+1)):=λj y=>Ii (by rw[<-t];exact y);have ch:Hid (∀j,j<=i->(l4 n d ps j).length=i):=λj y=>by rw[t]at y⊢;exact Ex y
 have b3:Hid (l4 n d ps 0=List.replicate i false):=by show _=_;rw[Jp,<-t]
 have b4:Hid (l4 n d ps i=cE n d ps):=by show _=_;rw[t];exact LS _ _ _
 clear ad P B t al b1;obtain⟨o,G⟩:∃o,o=w.heap.size:=⟨_,rfl⟩;obtain⟨db,J⟩:∃db,db=w.heap.size+1:=⟨_,rfl⟩;obtain⟨s,F⟩:∃s,s=w.alloc (.cells (iX n H A N r) 28):=⟨_,rfl⟩;obtain⟨l,C⟩:∃l,l=s.alloc (.cells ((List.replicate i false).map vB).toArray 4):=⟨_,rfl⟩;have K:s.heap.size=db:=by rw[F,J];simp
 have ap:=xv i oO s;rw[<-C,K,F]at ap;have b5:Hid (Below w.heap.size w s):=by show Below _ _ _;rw[F];exact ax _ _
 have L:Hid (Below w.heap.size w l):=by show Below _ _ _;rw[C];exact ah b5.out _
 have b6:Hid (aa l o (iX n H A N r) 28):=by
  show aa _ _ _ _;rw[C];have Q:aa s o (iX n H A N r) 28:=by rw[F];exact aa.new _ _ _ _ G
  exact Q.below (ax _ _)
 have av:Hid (bu l db (l4 n d ps 0)/\aD db l l):=by
  show _/\_;rw[b3.out,C,<-K];exact⟨bu.new _ _,aD.refl _ _⟩
 have u:Hid (o<db/\w.heap.size<=db/\db<l.heap.size/\w.heap.size=o):=by show _/\_;rw[C,J,G];simp[K,J]
 clear C F K J;go_enter Tryz.func42,Tryz.ntmps42;go_wp2;simp only[<-G];clear ap G;go_loopw [13] (λS wr=>∃j:Nat,j<=i/\S= .int .i64 j/\Hid (bu wr db (l4 n d ps j)/\aD db l wr)) (λS _=>i-(intOf S).toNat)
 case atStart=>exact⟨0,Nat.zero_le _,rfl,av.out⟩
 case round=>
  clear av;obtain⟨j,y,rfl,z⟩:=hrel;by_cases M:j<i
  ·obtain⟨g,x,rfl,W,a0⟩:=bq.out (by rw[<-V.out];omega);have T:=a0 j (by rw[<-V.out];exact M);have a1:ps.getD j (0,0)∈ps:=by
    have:j<ps.length:=by rw[<-V.out];exact M
    simp only[List.getD,List.getElem?_eq_getElem this,Option.getD_some];exact List.getElem_mem this
   obtain⟨cv,cx,a9⟩:=b2.out _ a1;have a2:=Lib.hid (ck.out j M);have a3:Hid ((l4 n d ps j).length=i):=ch.out j y;generalize ps.getD j (0,0)=p at*;generalize l4 n d ps j=U at*;have b7:g<o:=by have:=u.out.2.2.2;omega
   have ab:g≠db:=by have:=u.out.1;omega
   have X:g<l.heap.size:=by have:=u.out;omega
   have e1:wr.cell? ⟨g,x+j* 2,none⟩=some (.int .i64 (p.1:Int)):=(z.out.2.cell (a:=⟨g,x+j* 2,none⟩) X ab).trans ((L.out.cell (p:=⟨g,x+j* 2,none⟩) W).trans T.1);have e2:wr.cell? ⟨g,x+j* 2+1,none⟩=some (.int .i64 (p.2:Int)):=(z.out.2.cell (a:=⟨g,x+j* 2+1,none⟩) X ab).trans ((L.out.cell (p:=⟨g,x+j* 2+1,none⟩) W).trans T.2);obtain⟨f,O⟩:∃f,f=wr.alloc (.cells #[.int .i64 (p.1:Int),.int .i64 (p.2:Int)] 47):=⟨_,rfl⟩;obtain⟨D,B⟩:∃D,D=wr.heap.size:=⟨_,rfl⟩;have a4:Hid (Below wr.heap.size wr f):=by show Below _ _ _;rw[O];exact ax _ _
   have a5:Hid (aa f D #[.int .i64 (p.1:Int),.int .i64 (p.2:Int)] 47):=by show aa _ _ _ _;rw[O,B];exact aa.new _ _ _ _ oS
   have Y:Hid (bu f db U):=z.out.1.below a4.out;have Z:Hid (aD db l f):=z.out.2.trans (aD.below a4.out);have a6:f.cell? ⟨D,0,none⟩=some (.int .i64 (p.1:Int)):=a5.out.cell 0 _ rfl;have bb:f.cell? ⟨D,1,none⟩=some (.int .i64 (p.2:Int)):=a5.out.cell 1 _ rfl;have a7:Hid (aa f o (iX n H A N r) 28):=Z.out.row b6.out (by have:=u.out.1;omega);have bt:f.cell? ⟨o,0,none⟩=some (.int .i64 (n:Int)):=a7.out.cell 0 _ rfl;have bv:f.cell? ⟨o,2,none⟩=some (.slice A N r):=a7.out.cell 2 _ rfl;obtain⟨q,hq⟩:∃q,q=p.2* n:=⟨_,rfl⟩;obtain⟨m,ac⟩:∃m,m=bW n p:=⟨_,rfl⟩;have b8:m=q+p.1:=by rw[ac,hq];rfl
   rw[<-ac]at a9 a2;have c2:q<=4194304:=oO;have c3:(p.2:Int)* (n:Int)=(q:Int):=by rw[hq];simp
   have cq:IntKind.i64.wrap (q:Int)=(q:Int):=aG _ oO oO;have cs:(q:Int)+(p.1:Int)=(m:Int):=oO;have c5:(m:Int)<(N:Int):=oO;obtain⟨E,rfl,bd,a8⟩:=bs.out.rd (by rw[<-am.out];omega);have be:E.block≠db:=by have:=u.out;omega
   have bf:E.block<l.heap.size:=by have:=u.out;omega
   have b9:f.cell? (E.add m)=some (.bool (d.getD m false)):=(Z.out.cell (a:=E.add m) (by rw[aL];exact bf) (by rw[aL];exact be)).trans ((L.out.cell (p:=E.add m) (by rw[aL];exact bd)).trans (a8 m (by rw[<-am.out];exact a9)));generalize d.getD m false=b at*;have ci:Hid (j<U.length):=by show _<_;rw[a3.out];exact M
   have c4:(j:Int)<(i:Int):=oO;have ca:f.cell? ⟨db,j,none⟩=some (.bool (U.getD j false)):=Y.out.cell ci.out;have cb:f.frozen? ⟨db,j,none⟩=false:=frozen_of_row _ _ _ _ _ Y.out;have bi:Hid (bu (f.setCell ⟨db,j,none⟩ (.bool b)) db (l4 n d ps (j+1))/\aD db l (f.setCell ⟨db,j,none⟩ (.bool b))):=by
    show _/\_;rw[<-a2.out];exact⟨Y.out.set _ _,Z.out.trans (aD.fm _)⟩
   rw[O]at bt bv b9 ca cb bi a6 bb;rw[B]at a6 bb;clear hq ac b8 a1 a3 a0 T a8 bd bf be b7 ab X W O B;go_wp2;exact⟨⟨j+1,by omega,by go_num,bi.out⟩,by simp[intOf];omega⟩
  ·obtain rfl:j=i:=oO;have bx:Hid (bu wr db (cE n d ps)):=by show bu _ _ _;rw[<-b4.out];exact z.out.1
   have ce:Hid (Below w.heap.size w wr):=by show Below _ _ _;have Q:=u.out;exact L.out.trans (z.out.2.to Q.2.1 oO)
   go_wp2;go_ret;exact⟨db,j,rfl,rfl,bx.out,ce.out⟩
end
end Go.Proofs.YtmnlkganmgcpbaaGreatDoor
