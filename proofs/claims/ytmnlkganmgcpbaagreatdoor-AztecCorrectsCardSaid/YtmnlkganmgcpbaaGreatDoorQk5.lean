import Derived.Test.YtmnlkganmgcpbaaGreatDoorQk4
import Derived.Laws.IdiomStrings
import Derived.Laws.Tables
set_option maxRecDepth 100000
set_option maxHeartbeats 4000000
set_option linter.unusedVariables false
set_option linter.unusedSectionVars false
set_option linter.unusedSimpArgs false
namespace Go.Proofs.YtmnlkganmgcpbaaGreatDoor
theorem CK (x y p:Nat) (a:p≠0):cmod (x^^^y) p=cmod x p^^^cmod y p:=by
 refine(jJ _ _ _ ?_ ?_).symm
 ·have:=mC (j8 x p) (j8 y p);rw[show x^^^cmod x p^^^(y^^^cmod y p)=(x^^^y)^^^(cmod x p^^^cmod y p)from by ac_rfl]at this;exact this
 ·have b:=lj x p a;have c:=lj y p a;have:=nG (cmod x p) (cmod y p) (bl p-1) oO oO;omega
theorem Fg (x y p:Nat) (a:p≠0) (h:gn p (x^^^y)):cmod x p=cmod y p:=by
 refine jJ _ _ _ ?_ (lj _ _ a);have:=mC h (j8 x p);rw[show x^^^y^^^(x^^^cmod x p)=(x^^^x)^^^(y^^^cmod x p)from by ac_rfl]at this;simpa using this
theorem my (x y p:Nat) (a:p≠0):cmod (bU (cmod x p) y) p=cmod (bU x y) p:=by
 refine(Fg _ _ _ a ?_).symm;rw[<-rj];exact BD _ (j8 x p)
theorem xS (x y p:Nat) (a:p≠0):cmod (bU x (cmod y p)) p=cmod (bU x y) p:=by
 rw[nF,my _ _ _ a,nF]
theorem vu (a p d:Nat) (b:bl p=d+1) (e:bl a<=d):cmod (2* a) p=if 2^d<=2* a then(2* a)^^^p else 2* a:=by
 have g:p≠0:=by intro h;subst h;rw[fy]at b;omega
 have f:bl (2* a)<=d+1:=by
  by_cases h:a=0
  ·subst h;rw[Nat.mul_zero,fy];omega
  ·rw[rF a h];omega
 split
 ·rename_i h
  have c:bl (2* a)=d+1:=by have:=(iF (2* a) d).2 h;omega
  refine(jJ _ _ _ ?_ ?_).symm
  ·rw[<-Nat.xor_assoc];simp;exact Gw p
  ·have:=zx (2* a) p d c b;omega
 ·rename_i h
  exact kl _ _ (by have:=(bB (2* a) d).2 oO;omega)
def aG (s p a b:Nat):Nat:=if p=0 then a* b%s else cmod (bU a b) p
theorem GW (A B p:Nat) (a:p≠0):cmod (bU A B) p=(if B%2=1 then cmod A p else 0)^^^cmod (bU (cmod (2* A) p) (B/2)) p:=by
 rw[e8,CK _ _ _ a,my _ _ _ a,td];congr 1;split
 ·rfl
 ·exact kl 0 p (by rw[fy];exact ia p a)
section
open Go.RowKit
theorem Gs (x:Nat) (h:x<2^64):Lib.bitLen x=bl x:=by
 induction x using Nat.strongRecOn with
 |_ x b=>
  by_cases a:x=0
  ·subst a;rfl
  ·rw[Lib.bitLen_half x a h,b (x/2) oO oO];by_cases c:x=1
   ·subst c;rfl
   ·have d:x/2≠0:=oO;obtain⟨n,hn⟩:∃n,bl (x/2)=n+1:=⟨bl (x/2)-1,by have:=ia _ d;omega⟩;have e:=(iF (x/2) n).1 oO;have f:=(bB (x/2) (n+1)).1 oO;rw[hn];rw[wY x (n+1) (by rw[Nat.pow_succ];omega) (by rw[Nat.pow_succ];omega)];omega
theorem Li (x:Int) (w:World) (a:0<=x) (b:x<=9223372036854775807):
 Calls Tryz.prog 219 #[.int .u64 x] w λe w'=>e= .returned (.int .i64 (bl x.toNat))/\w=w':=by
 refine(Tryz.bits_Len x w a oO).mono ?_;rintro e w' ⟨rfl,rfl⟩;exact⟨by rw[Gs _ oO],rfl⟩
theorem Lm (x:Int) (a:0<=x) (b:x<=9223372036854775807):bl x.toNat<=63:=
 (bB _ _).2 oO
theorem eP (p:Int) (w:World) (a:0<=p) (b:p<=9223372036854775807):
 Calls Tryz.prog 188 #[.int .i64 p] w λe w'=>e= .returned (.int .i64 ((bl p.toNat:Int)-1))/\w=w':=by
 have hb:=Lm p a b;go_enter Tryz.func188,Tryz.ntmps188;go_wp2_with(go_at_call 219;refine(Li _ _ oO oO).mono ?_;rintro e w' ⟨rfl,rfl⟩)
 go_ret;exact⟨rfl,rfl⟩
end
section
open Go.RowKit Go.WideMaps Go.Maps
def lQ (W:World) (cb at_ m:Nat):Nat:=match W.cell? ⟨cb,at_* 5+m,none⟩with|some (.int _ x)=>x.toNat|_=>0
def vR (W:World) (cb at_:Nat):Nat:=lQ W cb at_ 0+lQ W cb at_ 1+lQ W cb at_ 2+lQ W cb at_ 3+lQ W cb at_ 4
theorem SW.sum {w:World} {sb cb cap hb:Nat} {p:ByteArray} {C:Nat->Nat->Nat} (h:SW w sb cb cap hb p C) (at_:Nat) (a:at_<=p.size):vR w cb at_=qp C at_:=by
 have k:∀m,m<5->lQ w cb at_ m=C at_ m:=λm b=>by unfold lQ;rw[h.cz at_ m a b];simp
 unfold vR qp;rw[k 0 oO,k 1 oO,k 2 oO,k 3 oO,k 4 oO]
def xQ:Value->Nat
 |.bool true=>1
 |_=>0
theorem IZ:(Tryz.prog.info? 219).map (·.zero)=some (some (.agg #[.slice none 0 0,.slice none 0 0,.slice none 0 0,.slice none 0 0,.slice none 0 0])):=oK
theorem Gl:(Tryz.prog.info? 219).map (·.size)=some 5:=oK
theorem Cg:(Tryz.prog.info? 218).map (·.size)=some 1:=oK
structure QS (w wr:World) (n ob base sb cb cap hb:Nat) (p:ByteArray) (C:Nat->Nat->Nat) (vs:List Value) (L:Nat->List az) (μ cnt:Nat) (T:Nat->Nat->Option az):Prop where
 B:Below n w wr
 S:SQ wr sb cb cap hb p C
 A:ak wr ob vs
 F:FZ wr ob 5
 V:∀i,i<μ->∃v,vs[i]?=some v/\wr.ownsRow base 181 7 v (L i).length ((L i).flatMap az.aE)
 M:cO wr hb cnt T
 l5:vs.length=5
 n1:n<=sb/\n<=cb/\n<=hb
 n2:sb<ob/\cb<ob/\hb<ob
 n3:ob<base
 n4:base<=wr.heap.size
section
variable {w wr W : World} {n ob base sb cb cap hb : Nat} {p : ByteArray} {C : Nat → Nat → Nat} {vs : List Value} {L : Nat → List az} {μ cnt : Nat} {T : Nat → Nat → Option az}
theorem QS.below (h:QS w wr n ob base sb cb cap hb p C vs L μ cnt T) (a:Below wr.heap.size wr W):QS w W n ob base sb cb cap hb p C vs L μ cnt T:=
 ⟨h.B.trans (a.mono (by have:=h.n1;have:=h.n2;have:=h.n3;have:=h.n4;omega)),h.S.below a,h.A.below a,h.F.below a,λi b=>by obtain⟨v,c,d⟩:=h.V i b;exact⟨v,c,au d a⟩,h.M.below a,h.l5,h.n1,h.n2,h.n3,Nat.le_trans h.n4 a.size⟩
theorem lW {base:Nat} {e:TypeId} {sz:Nat} {v:Value} {k:Nat} {xs:List Value} (h:wr.ownsRow base e sz v k xs) {a:Addr} (j:a.block<base) (u:Value):(wr.setCell a u).ownsRow base e sz v k xs:=by
 refine⟨h.1,?_⟩;rcases h.2 with b|⟨g,cap,i,c,b,d,f⟩
 ·exact .inl b
 ·exact .inr ⟨g,cap,i,c,b,(Below.heap_setCell _ _ _ _ oO).trans d,f⟩
theorem QS.cost (h:QS w wr n ob base sb cb cap hb p C vs L μ cnt T) (a m x:Nat) (b:a<=p.size) (c:m<5) (d:x<=1073741824):
 QS w (wr.setCell ⟨cb,a* 5+m,none⟩ (.int .i64 (x:Int))) n ob base sb cb cap hb p (mT C a m x) vs L μ cnt T:=by
 have j:=h.n1;have k:=h.n2;have l:=h.n3
 exact⟨h.B.setCell (by show n<=cb;omega) _,h.S.set a m x b c d,h.A.other _ _ (by show ob≠cb;omega),h.F.set _ _,λi e=>by obtain⟨v,f,g⟩:=h.V i e;exact⟨v,f,lW g (by show cb<base;omega) _⟩,h.M.set (by exact h.S.n3) _,h.l5,h.n1,h.n2,h.n3,by simpa using h.n4⟩
theorem QS.slot (h:QS w wr n ob base sb cb cap hb p C vs L μ cnt T) (v:Value) (f:μ<5) (g:wr.ownsRow base 181 7 v (L μ).length ((L μ).flatMap az.aE)):
 QS w (wr.setCell ⟨ob,μ,none⟩ v) n ob base sb cb cap hb p C (vs.set μ v) L (μ+1) cnt T:=by
 have q:=h.n1;have c:=h.n2;have r:=h.n3
 have hs:=h.S.S;have d:∀b i,b<ob->(wr.setCell ⟨ob,μ,none⟩ v).cell? ⟨b,i,none⟩=wr.cell? ⟨b,i,none⟩:=λb i hb=>World.cell?_setCell_other wr _ _ _ (λe=>by injection e with e1;omega)
 refine⟨h.B.setCell (by show n<=ob;omega) _,⟨⟨by simpa using hs.lt,by rw[d _ _ c.1];exact hs.c0,λi u j=>by rw[d _ _ c.1];exact hs.ct i u j,by rw[d _ _ c.1];exact hs.cc,by rw[d _ _ c.1];exact hs.cm,by simpa using hs.cl,λa m k f=>by rw[d _ _ c.2.1];exact hs.cz a m k f,hs.hc,hs.hp,hs.b⟩,h.S.F.set _ _,h.S.n1,h.S.n2,h.S.n3⟩,
  h.A.set μ v (by rw[h.l5];exact f),h.F.set _ _,λi s=>?_,h.M.set (by show hb≠ob;omega) _,by rw[List.length_set];exact h.l5,h.n1,h.n2,h.n3,by simpa using h.n4⟩
 by_cases e:i=μ
 ·subst e;exact⟨v,by rw[List.getElem?_set_self (by rw[h.l5];exact f)],lW g (by show ob<base;omega) _⟩
 ·obtain⟨u,l,o⟩:=h.V i oO;exact⟨u,by rw[List.getElem?_set_ne (Ne.symm e)];exact l,lW o (by show ob<base;omega) _⟩
theorem QS.put (h:QS w wr n ob base sb cb cap hb p C vs L μ cnt T) {a:Nat->Nat->Option az} {d:Nat} (hg:wr.grownBy W (some hb)) (f:cO W hb d a):QS w W n ob base sb cb cap hb p C vs L μ d a:=by
 have o:=h.n1;have r:=h.n2;have s:=h.n3
 refine⟨h.B.grown hg (by have:=h.n4;omega) (λk b=>by injection b with b;omega),h.S.grown hg h.S.n2 h.S.n3,h.A.grown hg (λq hq=>by injection hq with hq;omega),h.F.grown hg (λe=>by injection e with e;omega),λi j=>?_,f,h.l5,h.n1,h.n2,h.n3,Nat.le_trans h.n4 hg.size⟩;obtain⟨v,l,c⟩:=h.V i j;refine⟨v,l,c.kept hg ?_⟩;cases m:v.ownBlock with
 |none=>exact .inl rfl
 |some g=>right;intro e;injection e with e;have:=(c.lt g m).1;omega
theorem QS.row (h:QS w wr n ob base sb cb cap hb p C vs L μ cnt T) (i:Nat) (m:i<μ):∃A c,vs[i]?=some (.slice A (L i).length c)/\
 ∀j,j<(L i).length->∃g,A=some ⟨g,0,none⟩/\∀W,Below wr.heap.size wr W->∀a,(L i)[j]?=some a->∀k u,a.aE[k]?=some u->W.cell? ⟨g,j* 7+k,none⟩=some u:=by
 obtain⟨v,e,f⟩:=h.V i m;rcases f.2 with⟨rfl,o⟩|⟨g,cap,y,rfl,hb,hg,z,lH,B,x⟩
 ·exact⟨none,0,by rw[o];exact e,λj q=>by omega⟩
 ·refine⟨_,cap,e,λj q=>⟨g,rfl,λW r a s k u b=>?_⟩⟩;have t:k<7:=by
   rcases Nat.lt_or_ge k 7 with d|d
   ·exact d
   ·rw[List.getElem?_eq_none (by show 7<=k;exact d)]at b;cases b
  have l:=f.cells (g:=g) rfl (j* 7+k) u (by rw[sD _ _ _ _ s t];exact b);rw[add_plain,Nat.zero_add]at l;exact(r.cell (ar hg)).trans l
end
theorem AV {w:World} {b c:Nat} {e:TypeId} {sz:Nat} {v:Value} {k:Nat} {xs:List Value} (h:w.ownsRow b e sz v k xs) (hb:c<=b):w.ownsRow c e sz v k xs:=by
 refine⟨h.1,?_⟩;rcases h.2 with a|⟨g,cap,i,d,a,f⟩
 ·exact .inl a
 ·exact .inr ⟨g,cap,i,d,Nat.le_trans hb a,f⟩
theorem cU {w:World} {a:Nat} {e:TypeId} {sz:Nat} {v:Value} {k:Nat} {xs:List Value} (h:w.ownsRow a e sz v k xs):∃A c,v= .slice A k c:=by
 rcases h.2 with⟨rfl,rfl⟩|⟨g,cap,b,rfl,_⟩
 ·exact⟨_,_,rfl⟩
 ·exact⟨_,_,rfl⟩
def qw (C C':Nat->Nat->Nat) (p:ByteArray) (at_:Nat):Prop:=
 (∀a m,a≠at_->C' a m=C a m)/\(∀m,m<5->∀b∈bJ C' p at_ m 32,C' at_ m<=b.bI C')/\(∀m,m<5->C' at_ m=1073741824\/∃b∈bJ C' p at_ m 32,b.bI C'=C' at_ m)
def lX (C:Nat->Nat->Nat) (p:ByteArray) (at_:Nat):Prop:=
 (∀m,m<5->∀a∈bJ C p at_ m 32,C at_ m<=a.bI C)/\(∀m,m<5->C at_ m=1073741824\/∃a∈bJ C p at_ m 32,a.bI C=C at_ m)
theorem qw.fix {C C':Nat->Nat->Nat} {p:ByteArray} {at_:Nat} (h:qw C C' p at_):lX C' p at_:=h.2
def cG (C:Nat->Nat->Nat) (p:ByteArray) (at_ m:Nat):Option az:=(bJ C p at_ m 32).find? (λa=>a.bI C==C at_ m)
theorem lX.congr {C C':Nat->Nat->Nat} {p:ByteArray} {at_:Nat} (h:∀a m,at_<=a->C' a m=C a m) (g:lX C p at_):lX C' p at_:=by
 have e:∀m,bJ C' p at_ m 32=bJ C p at_ m 32:=λm=>oe (λa m k=>h a m oO) 32;have i:∀m,∀b∈bJ C p at_ m 32,b.bI C'=b.bI C:=λm b c=>by unfold az.bI;rw[h _ _ (yM 32 c)]
 refine⟨λm f b c=>?_,λm f=>?_⟩
 ·rw[e m]at c;rw[i m b c,h _ _ (Nat.le_refl _)];exact g.1 m f b c
 ·rw[h _ _ (Nat.le_refl _),e m];rcases g.2 m f with d|⟨b,d,j⟩
  ·exact .inl d
  ·exact .inr ⟨b,d,by rw[i m b d];exact j⟩
theorem find_congr {l:List az} {q b:az->Bool} (h:∀a∈l,q a=b a):l.find? q=l.find? b:=by
 induction l with
 |nil=>rfl
 |cons x l c=>
  rw[List.find?_cons,List.find?_cons,h x (List.mem_cons_self ..),c (λa d=>h a (List.mem_cons_of_mem _ d))]
theorem cG.congr {C C':Nat->Nat->Nat} {p:ByteArray} {at_:Nat} (h:∀a m,at_<=a->C' a m=C a m) (m:Nat):cG C' p at_ m=cG C p at_ m:=by
 unfold cG;rw[oe (C:=C') (C':=C) (λa m d=>h a m oO) 32];refine find_congr λc b=>?_;unfold az.bI;rw[h _ _ (yM 32 b),h _ _ (Nat.le_refl _)]
theorem He {L:List az} {C:Nat->Nat->Nat} {x j:Nat} {b:az} (h:∀a,a<j->∀b,L[a]?=some b->x<=b.bI C) (e:L[j]?=some b) (f:x<=b.bI C):∀a,a<j+1->∀b,L[a]?=some b->x<=b.bI C:=by
 intro a i g c;rcases Nat.lt_or_ge a j with d|d
 ·exact h a d g c
 ·obtain rfl:a=j:=oO;rw[e]at c;injection c with c;rw[<-c];exact f
theorem Fu {l:List az} {q:az->Bool}:∀{j:Nat} {a:az},(∀b,b<j->∀c,l[b]?=some c->q c=false)->l[j]?=some a->q a=true->l.find? q=some a:=by
 induction l with
 |nil=>intro j a _ h;simp at h
 |cons x l e=>
  intro j a h d hq;cases j with
  |zero=>
   simp only[List.getElem?_cons_zero,Option.some.injEq]at d;subst d;rw[List.find?_cons_of_pos hq]
  |succ j=>
   have f:q x=false:=h 0 (Nat.succ_pos _) x rfl;rw[List.find?_cons_of_neg (by rw[f];simp)];exact e (λb g c i=>h (b+1) (Nat.succ_lt_succ g) c (by simpa using i)) (by simpa using d) hq
theorem G2 {l:List az} {q:az->Bool} (h:∀a,a<l.length->∀b,l[a]?=some b->q b=false):l.find? q=none:=by
 rw[List.find?_eq_none];intro d f;obtain⟨j,c,e⟩:=List.getElem_of_mem f;rw[h j c d (by rw[List.getElem?_eq_getElem c,e])];simp
def TT (C:Nat->Nat->Nat) (p:ByteArray) (at_:Nat) (b:Nat->Nat->Option az) (i:Nat):Nat->Nat->Option az:=λa m=>if a=at_ then(if m<i then cG C p at_ m else none)else b a m
theorem TT.zero {C:Nat->Nat->Nat} {p:ByteArray} {at_:Nat} {b:Nat->Nat->Option az} {a m:Nat} {c:az} (h:TT C p at_ b 0 a m=some c):b a m=some c:=by
 unfold TT at h;by_cases e:a=at_
 ·rw[if_pos e,if_neg oO]at h;cases h
 ·rwa[if_neg e]at h
theorem TT.none_ {C:Nat->Nat->Nat} {p:ByteArray} {at_ i:Nat} {b:Nat->Nat->Option az} (hn:cG C p at_ i=none) {a m:Nat} {c:az} (h:TT C p at_ b (i+1) a m=some c):TT C p at_ b i a m=some c:=by
 unfold TT at h⊢;by_cases e:a=at_
 ·rw[if_pos e]at h⊢;by_cases e2:m<i
  ·rw[if_pos oO]at h;rw[if_pos e2];exact h
  ·by_cases e3:m<i+1
   ·rw[if_pos e3]at h;obtain rfl:m=i:=oO;rw[hn]at h;cases h
   ·rw[if_neg e3]at h;cases h
 ·rw[if_neg e]at h⊢;exact h
theorem TT.some_ {C:Nat->Nat->Nat} {p:ByteArray} {at_ i:Nat} {c:Nat->Nat->Option az} {x:az} (hn:cG C p at_ i=some x) {a m:Nat} {d:az} (h:TT C p at_ c (i+1) a m=some d):wi (TT C p at_ c i) at_ i x a m=some d:=by
 unfold wi;by_cases b:a=at_/\m=i
 ·rw[if_pos b];unfold TT at h;rw[if_pos b.1,if_pos oO,b.2,hn]at h;exact h
 ·rw[if_neg b];unfold TT at h⊢;by_cases e:a=at_
  ·rw[if_pos e]at h⊢;by_cases e2:m<i
   ·rw[if_pos oO]at h;rw[if_pos e2];exact h
   ·rw[if_neg oO]at h;cases h
  ·rw[if_neg e]at h⊢;exact h
theorem QS.vx {w wr:World} {n e base f g cap hb:Nat} {p:ByteArray} {C:Nat->Nat->Nat} {i:List Value} {L:Nat->List az} {b k l:Nat} {c j:Nat->Nat->Option az} (h:QS w wr n e base f g cap hb p C i L b k c)
 (hc:k<=l) (o:∀a m d,a<=4096->m<5->j a m=some d->c a m=some d):QS w wr n e base f g cap hb p C i L b l j:=
 ⟨h.B,h.S,h.A,h.F,h.V,h.M.vx hc o,h.l5,h.n1,h.n2,h.n3,h.n4⟩
theorem DB {c:Array Oper} {S:World->Prop} {K:Act->World->Prop} {r:List (Bool×Nat×Oper)} {k:Nat} {b:Oper} {a:Act} {W:World} {hb d:Nat} {e:Nat->Nat->Option az} (h:cO W hb d e)
 (u:Region.wanted b (yielded c a.tmps)=true) (m x v:Operand) (f:b.op= .mapUpdate 173 m x v) (g:a.eval m= .map (some hb)) (at_ i:Nat) (j:a.eval x= .agg #[.int .i64 (at_:Int),.int .i64 (i:Int)]) (y:az) (l:a.eval v=y.val)
 (n:at_<=4096) (o:i<5) (hc:d<maxLen)
 (p:∀w',cO w' hb (d+1) (wi e at_ i y)->W.grownBy w' (some hb)->S w'/\bn Tryz.prog c S K r (a.put b.dst undef) w'):bn Tryz.prog c S K ((true,k,b)::r) a W:=by
 obtain⟨w',w,q,s⟩:=h.put at_ i y n o hc;have t:=p w' q s;refine .inl ⟨u,?_⟩;unfold execOp;simp only[f,g,j,l,w,Sem.run_bind,Sem.run_pure,Result.andThen_ok];exact t
theorem EV (at_:Nat) (w:World) (n o l cap hb D:Nat) (p:ByteArray) (C:Nat->Nat->Nat) (E:Nat->Nat->Option az) (al:SQ w o l cap hb p C) (ch:cO w hb D E) (ci:at_<p.size) (hn:n<=o/\n<=l/\n<=hb) (fx:D<=30000):
 Calls Tryz.prog 130 #[.pointer (some ⟨o,0,none⟩),.int .i64 (at_:Int)] w
  λe w'=>e= .returned (.tuple #[])/\∃C',SQ w' o l cap hb p C'/\qw C C' p at_/\cO w' hb (D+5) (λa m=>if a=at_ then cG C' p at_ m else E a m)/\Below n w w':=by
 have d7:=al.S.hp;have fl:at_<=4096:=oO;have fn:(at_:Int)<(p.size:Int)+1:=oO;have fz:=al.S.hc;obtain⟨L,dl⟩:∃L:Nat->List az,L=λm=>bJ C p at_ m 32:=⟨_,rfl⟩;have b1:=Lib.hid dl;have cN:Hid (∀C',(∀a m,a≠at_->C' a m=C a m)->∀m,bJ C' p at_ m 32=L m):=by
  show∀C',_;intro C' h m;rw[b1.out];exact oe (λa m ci=>h a m oO) 32
 have d0:Hid (∀m,m<5->∀b∈L m,okO p b):=by
  show∀m,_;intro m N b s;rw[b1.out]at s;exact qt ci d7 N 32 s
 have c2:Hid (QS w (w.alloc (.cells #[.slice none 0 0,.slice none 0 0,.slice none 0 0,.slice none 0 0,.slice none 0 0] 219)) n w.heap.size (w.heap.size+1) o l cap hb p C [.slice none 0 0,.slice none 0 0,.slice none 0 0,.slice none 0 0,.slice none 0 0] L 0 D E):=
  ⟨(ax _ _).mono (by have:=al.S.lt;omega),al.below (ax _ _),ak.new _ #[.slice none 0 0,.slice none 0 0,.slice none 0 0,.slice none 0 0,.slice none 0 0] _ _ rfl,FZ.new _ _ _ _ _ rfl,λi dn=>by omega,ch.below (ax _ _),rfl,hn,⟨al.S.lt,al.S.cl,ch.lt⟩,by omega,by simp⟩
 clear al ch dl hn;go_enter Tryz.func130,Tryz.ntmps130;go_wp2_with((with_reducible show wpList _ _ _ (⟨_,Op.alloc 219,_,_,_,_⟩::_) _ _);refine aM rfl 219 rfl _ IZ ?_)
 generalize w.alloc (.cells #[.slice none 0 0,.slice none 0 0,.slice none 0 0,.slice none 0 0,.slice none 0 0] 219)=fb at*;obtain⟨B,b5⟩:∃B,B=w.heap.size:=⟨_,rfl⟩;obtain⟨base,dk⟩:∃base,base=w.heap.size+1:=⟨_,rfl⟩;rw[<-dk,<-b5]at c2;rw[<-b5];have fo:=Lib.hid dk;have fr:=Lib.hid b5;clear b5 dk;go_loopw [16] (λF wr=>∃(r:Nat) (C':Nat->Nat->Nat) (t:List Value),r<=5/\F= .int .i64 r/\Hid (QS w wr n B base o l cap hb p C' t L r D E)/\Hid (∀a m,a≠at_->C' a m=C a m)/\Hid (∀m,m<r->C' at_ m=1073741824)) (λF _=>5-(intOf F).toNat)
 case atStart=>exact⟨0,C,_,by omega,rfl,c2.out,λ_ _ _=>rfl,λm N=>by omega⟩
 case round=>
  clear c2;obtain⟨r,am,t,d8,rfl,f,H,b2⟩:=hrel;by_cases z:r<5
  ·have c1:=f.out.S.S.cc;have fc:=f.out.S.S.cz at_ r oO z;have fd:=f.out.S.F.2 (at_* 5+r) oO;have fv:(r:Int)<5:=oO;have c3:Hid (QS w (wr.setCell ⟨l,at_* 5+r,none⟩ (.int .i64 1073741824)) n B base o l cap hb p (mT am at_ r 1073741824) t L r D E):=f.out.cost at_ r 1073741824 oO z (Nat.le_refl _);have d6:Hid (∀a m,a≠at_->mT am at_ r 1073741824 a m=C a m):=by
    show∀a m,_;intro a m h;rw[kQ _ _ _ _ _ _ (λe=>h e.1)];exact H.out a m h
   have em:Hid (∀m,m<r+1->mT am at_ r 1073741824 at_ m=1073741824):=by
    show∀m,_;intro m N;by_cases e:m=r
    ·subst e;exact nJ _ _ _ _
    ·rw[kQ _ _ _ _ _ _ (λh=>e h.2)];exact b2.out m oO
   clear f H b2;generalize mT am at_ r 1073741824=d at*;go_wp2_with(go_at_call 179;refine(DC at_ r _ o l cap hb p d c3.out.S.S ci z).mono ?_;rintro e O ⟨v,rfl,s⟩;obtain⟨dp,ds,rfl⟩:=cU s.O;have b6:=Lib.hid (c3.out.below s.B);have en:=Lib.hid s.O;have dv:=b6.out.F.2 r z;have b3:=b6.out.A.2 r (by rw[b6.out.l5];exact z);generalize t.getD r undef=fe at*;clear s)
   have eq:Hid (QS w (O.setCell ⟨B,r,none⟩ (.slice dp (bJ d p at_ r 32).length ds)) n B base o l cap hb p d (t.set r (.slice dp (bJ d p at_ r 32).length ds)) L (r+1) D E):=by
    refine b6.out.slot _ z ?_;have M:=AV en.out c3.out.n4;have d9:=cN.out d d6.out r;rw[<-d9];exact M
   exact⟨⟨r+1,d,_,by omega,by go_num,eq.out,d6.out,em.out⟩,by simp[intOf];omega⟩
  ·have bf:r=5:=oO;have dx:Hid (QS w wr n B base o l cap hb p am t L 5 D E):=by rw[<-bf];exact f.out
   have d1:Hid (tC am L at_):=by
    show tC _ _ _;intro m N;exact .inl (b2.out m oO)
   clear f b2;go_wp2;clear z d8 bf;go_loopw [6] (λap wr=>∃(x:Bool) (C':Nat->Nat->Nat),ap= .bool x/\Hid (QS w wr n B base o l cap hb p C' t L 5 D E)/\Hid (∀a m,a≠at_->C' a m=C a m)/\Hid (tC C' L at_)/\Hid (x=false->∀m,m<5->∀b∈L m,C' at_ m<=b.bI C')) (λap wr=>2* vR wr l at_+xQ ap)
   case atStart=>exact⟨true,am,rfl,dx.out,H.out,d1.out,λh=>by cases h⟩
   case round=>
    clear dx d1 H;obtain⟨x,d,rfl,f,H,Q,b7⟩:=hrel;cases x with
    |true=>
     clear b7;have d5:Hid (vR wr l at_=qp d at_):=f.out.S.S.sum at_ oO;obtain⟨a7,c4⟩:∃a7,a7=qp d at_:=⟨_,rfl⟩;rw[<-c4]at d5;have d2:=Lib.hid c4;clear c4;go_wp2_with((with_reducible show wpList _ _ _ (⟨_,Op.load 219 _,_,_,_,_⟩::_) _ _);refine bj rfl 219 _ rfl _ Tryz.underlying219 rfl ⟨B,0,none⟩ t (by rw[f.out.l5];exact Gl) rfl (gL f.out.A) ?_)
     obtain⟨a8,rfl⟩:∃a8:World,a8=wr:=⟨_,rfl⟩;go_loopw [6,37] (λap F wr=>∃(i:Nat) (x:Bool) (C':Nat->Nat->Nat),i<=5/\F= .int .i64 i/\ap= .bool x/\Hid (QS w wr n B base o l cap hb p C' t L 5 D E)/\Hid (∀a m,a≠at_->C' a m=C a m)/\Hid (tC C' L at_)/\Hid (x=false->C'=d/\∀m,m<i->∀b∈L m,C' at_ m<=b.bI C')/\Hid (x=true->qp C' at_<a7)) (λ_ F _=>5-(intOf F).toNat)
     case atStart=>exact⟨0,false,d,by omega,rfl,rfl,f.out,H.out,Q.out,λ_=>⟨rfl,λm N=>by omega⟩,λh=>by cases h⟩
     case round=>
      clear f H Q;obtain⟨i,x,b4,dn,rfl,rfl,f,H,Q,hF,ab⟩:=hrel;by_cases z:i<5
      ·obtain⟨A,c,a4,ce⟩:=f.out.row i z;have bv:t.toArray[i]?=some (.slice A (L i).length c):=by simpa using a4
       have da:=Lib.hid a4;obtain⟨len,Z⟩:∃len,len=(L i).length:=⟨_,rfl⟩;have a5:=Lib.hid Z;have e0:len<=1024:=by rw[Z,b1.out];exact rH C p at_ i 32
       rw[<-Z]at bv;have e9:Hid (∀j,j<len->∃g,A=some ⟨g,0,none⟩/\∀b,(L i)[j]?=some b->∀k u,b.aE[k]?=some u->wr.cell? ⟨g,j* 7+k,none⟩=some u):=by
        show∀j,_;intro j ck;obtain⟨g,e,h⟩:=ce j (by rw[<-Z];exact ck);exact⟨g,e,h wr (Below.refl _ _)⟩
       clear ce a4 Z e9;go_wp2_with((with_reducible show wpList _ _ _ (⟨_,Op.index 219 _ _,_,_,_,_⟩::_) _ _);refine iG rfl 219 _ _ rfl 5 218 Tryz.underlying219 _ Tryz.underlying218 rfl Cg t.toArray .i64 i i rfl rfl rfl z _ bv ?_)
       go_loopw [6,43] (λap F wr=>∃(j:Nat) (x:Bool) (C':Nat->Nat->Nat),j<=len/\F= .int .i64 j/\ap= .bool x/\Hid (QS w wr n B base o l cap hb p C' t L 5 D E)/\Hid (∀a m,a≠at_->C' a m=C a m)/\Hid (tC C' L at_)/\Hid (x=false->C'=d/\(∀m,m<i->∀b∈L m,C' at_ m<=b.bI C')/\∀G,G<j->∀b,(L i)[G]?=some b->C' at_ i<=b.bI C')/\Hid (x=true->qp C' at_<a7)) (λ_ F _=>len-(intOf F).toNat)
       case atStart=>exact⟨0,x,b4,Nat.zero_le _,rfl,rfl,f.out,H.out,Q.out,λh=>⟨(hF.out h).1,(hF.out h).2,λG ea=>by omega⟩,ab.out⟩
       case round=>
        clear f H Q hF ab;obtain⟨j,x,J,ck,rfl,rfl,f,H,Q,hF,ab⟩:=hrel;by_cases bt:j<len
        ·obtain⟨co,cp,a6,bz⟩:=f.out.row i z;rw[da.out]at a6
         obtain⟨rfl,rfl⟩:A=co/\c=cp:=by
          have M:=Option.some.inj a6;injection M with cq ec cs;exact⟨cq,cs⟩
         obtain⟨g,rfl,bx⟩:=bz j (by rw[<-a5.out];exact bt);obtain⟨b,s⟩:∃b,(L i)[j]?=some b:=⟨_,List.getElem?_eq_getElem (by rw[<-a5.out];exact bt)⟩;have dy:=Lib.hid s;have be:b∈L i:=List.mem_of_getElem? s;have P:Hid (okO p b):=d0.out i z b be;have ed:=Lib.hid be;have b8:Hid (∀k u,b.aE[k]?=some u->wr.cell? ((⟨g,j* 7,none⟩:Addr).add k)=some u):=by
          show∀k,_;intro k u cv;rw[add_plain];exact bx wr (Below.refl _ _) b s k u cv
         have bi:Hid (∀W,af wr W->QS w W n B base o l cap hb p J t L 5 D E):=λW S=>f.out.below S;clear a6 bz s be bx f;obtain⟨T,bo⟩:∃T,T=b.bI J:=⟨_,rfl⟩;obtain⟨U,av⟩:∃U,U=J at_ i:=⟨_,rfl⟩;have V:=Lib.hid bo;have a0:=Lib.hid av;have er:Hid (U<=1073741824):=by show _<=_;rw[av];exact(bi.out wr (Below.refl _ _)).S.S.b _ _
         have es:(i:Int)<5:=oO;have eA:Hid (qp J at_<=a7):=by
          show _<=_;cases x with
          |true=>exact Nat.le_of_lt (ab.out rfl)
          |false=>rw[(hF.out rfl).1,<-d2.out];exact Nat.le_refl _
         clear bo av;by_cases a9:T<U
         ·clear hF ab
          go_wp2_with(first
           |((with_reducible show wpList _ _ _ (⟨_,Op.load 181 _,_,_,_,_⟩::_) _ _);first|refine bj rfl 181 _ rfl _ Tryz.underlying181 rfl ⟨g,j* 7,none⟩ b.aE fG rfl b8.out ?_|refine bj rfl 181 _ rfl _ Tryz.underlying181 rfl ⟨wr.heap.size,0,none⟩ b.aE fG rfl (ou _ b _ _ rfl) ?_)
           |((with_reducible show wpList _ _ _ (⟨_,Op.alloc 181,_,_,_,_⟩::_) _ _);refine aM rfl 181 rfl _ mR ?_)
           |((with_reducible show wpList _ _ _ (⟨_,Op.store 181 _ _,_,_,_,_⟩::_) _ _);refine aR rfl 181 _ _ rfl 181 _ b.aE rfl rfl fG rfl b.one ?_)
           |(go_at_call 180;refine(lr b _ o l cap hb p J (bi.out _ (ax _ _)).S.S P.out.1 P.out.2.1 P.out.2.2.1).mono ?_;rintro e O ⟨rfl,Y⟩;have K:=Lib.hid (bi.out O ((ax _ _).trans (Y.mono oS)));have dv:=K.out.S.S.cc;have b3:=K.out.S.S.cz at_ i oO z;have ef:=K.out.S.F.2 (at_* 5+i) oO;rw[<-a0.out]at b3;rw[<-V.out];clear Y))
          have b9:b.bI J<J at_ i:=by rw[<-V.out,<-a0.out];exact a9
          refine⟨⟨j+1,true,mT J at_ i T,by omega,by go_num,rfl,K.out.cost at_ i T oO z (by have:=er.out;omega),?_,?_,λh=>(by cases h),λ_=>?_⟩,by simp[intOf];omega⟩
          ·show∀a m,_;intro a m h;rw[kQ _ _ _ _ _ _ (λe=>h e.1)];exact H.out a m h
          ·have:=Q.out.N5 ed.out b9;rw[<-V.out]at this;exact this
          ·have M:=I0 (C:=J) (a:=at_) z b9;rw[<-V.out]at M;exact Nat.lt_of_lt_of_le M eA.out
         ·go_wp2_with(first
           |((with_reducible show wpList _ _ _ (⟨_,Op.load 181 _,_,_,_,_⟩::_) _ _);first|refine bj rfl 181 _ rfl _ Tryz.underlying181 rfl ⟨g,j* 7,none⟩ b.aE fG rfl b8.out ?_|refine bj rfl 181 _ rfl _ Tryz.underlying181 rfl ⟨wr.heap.size,0,none⟩ b.aE fG rfl (ou _ b _ _ rfl) ?_)
           |((with_reducible show wpList _ _ _ (⟨_,Op.alloc 181,_,_,_,_⟩::_) _ _);refine aM rfl 181 rfl _ mR ?_)
           |((with_reducible show wpList _ _ _ (⟨_,Op.store 181 _ _,_,_,_,_⟩::_) _ _);refine aR rfl 181 _ _ rfl 181 _ b.aE rfl rfl fG rfl b.one ?_)
           |(go_at_call 180;refine(lr b _ o l cap hb p J (bi.out _ (ax _ _)).S.S P.out.1 P.out.2.1 P.out.2.2.1).mono ?_;rintro e O ⟨rfl,Y⟩;have K:=Lib.hid (bi.out O ((ax _ _).trans (Y.mono oS)));have dv:=K.out.S.S.cc;have b3:=K.out.S.S.cz at_ i oO z;have ef:=K.out.S.F.2 (at_* 5+i) oO;rw[<-a0.out]at b3;rw[<-V.out];clear Y))
          have b9:J at_ i<=b.bI J:=by rw[<-V.out,<-a0.out];omega
          exact⟨⟨j+1,x,J,by omega,by go_num,rfl,K.out,H.out,Q.out,λh=>⟨(hF.out h).1,(hF.out h).2.1,He (hF.out h).2.2 dy.out b9⟩,ab.out⟩,by simp[intOf];omega⟩
        ·have ca:j=len:=oO;have et:Hid (x=false->J=d/\∀m,m<i+1->∀b∈L m,J at_ m<=b.bI J):=by
          show _->_;intro h;obtain⟨ac,cx,eh⟩:=hF.out h;refine⟨ac,λm N b s=>?_⟩;rcases Nat.lt_or_ge m i with dz|dz
          ·exact cx m dz b s
          ·obtain rfl:m=i:=oO;obtain⟨G,bq,e⟩:=List.getElem_of_mem s;exact eh G (by rw[ca,a5.out];exact bq) b (by rw[List.getElem?_eq_getElem bq,e])
         clear hF;subst ca;go_wp2;exact⟨⟨i+1,x,J,by omega,by go_num,rfl,f.out,H.out,Q.out,et.out,ab.out⟩,by simp[intOf];omega⟩
      ·have bf:i=5:=oO;have ew:Hid (x=false->∀m,m<5->∀b∈L m,b4 at_ m<=b.bI b4):=λh m N=>(hF.out h).2 m oO;have ex:Hid (2* vR wr l at_+xQ (.bool x)<2* a7+1):=by
        show _<_;rw[f.out.S.S.sum at_ oO];cases x with
        |true=>have:=ab.out rfl;show 2* _+1<_;omega
        |false=>rw[(hF.out rfl).1,<-d2.out];show 2* _+0<_;omega
       clear hF ab;go_wp2;refine⟨⟨x,b4,rfl,f.out,H.out,Q.out,ew.out⟩,?_⟩;show 2* vR wr l at_+xQ (.bool x)<2* vR a8 l at_+xQ (.bool true);rw[d5.out];exact ex.out
    |false=>
     have bb:Hid (∀m,bJ d p at_ m 32=L m):=cN.out d H.out;have d3:Hid (qw C d p at_):=by
      refine⟨H.out,λm N b s=>b7.out rfl m N b (by rw[bb.out m]at s;exact s),λm N=>?_⟩;rcases Q.out m N with ac|⟨b,ac,cx⟩
      ·exact .inl ac
      ·exact .inr ⟨b,by rw[bb.out m];exact ac,Nat.le_antisymm cx (b7.out rfl m N b ac)⟩
     have cb:Hid (QS w wr n B base o l cap hb p d t L 5 (D+0) (TT d p at_ E 0)):=f.out.vx oO (λa m b _ _ h=>TT.zero h);clear b7 f H Q cN b1;go_wp2_with((with_reducible show wpList _ _ _ (⟨_,Op.load 219 _,_,_,_,_⟩::_) _ _);refine bj rfl 219 _ rfl _ Tryz.underlying219 rfl ⟨B,0,none⟩ t (by rw[cb.out.l5];exact Gl) rfl (gL cb.out.A) ?_)
     go_loopw [73] (λF wr=>∃(i:Nat),i<=5/\F= .int .i64 i/\Hid (QS w wr n B base o l cap hb p d t L 5 (D+i) (TT d p at_ E i))) (λF _=>5-(intOf F).toNat)
     case atStart=>exact⟨0,by omega,rfl,cb.out⟩
     case round=>
      clear cb;obtain⟨i,dn,rfl,f⟩:=hrel;by_cases z:i<5
      ·obtain⟨A,c,a4,ce⟩:=f.out.row i z;have bv:t.toArray[i]?=some (.slice A (L i).length c):=by simpa using a4
       have da:=Lib.hid a4;obtain⟨len,Z⟩:∃len,len=(L i).length:=⟨_,rfl⟩;have a5:=Lib.hid Z;have e0:len<=1024:=by rw[Z,<-bb.out i];exact rH d p at_ i 32
       rw[<-Z]at bv;clear ce a4 Z;go_wp2_with((with_reducible show wpList _ _ _ (⟨_,Op.index 219 _ _,_,_,_,_⟩::_) _ _);refine iG rfl 219 _ _ rfl 5 218 Tryz.underlying219 _ Tryz.underlying218 rfl Cg t.toArray .i64 i i rfl rfl rfl z _ bv ?_)
       obtain⟨a8,rfl⟩:∃a8:World,a8=wr:=⟨_,rfl⟩;go_loopw [79] (λF wr=>∃(j:Nat),j<=len/\F= .int .i64 j/\Hid (QS w wr n B base o l cap hb p d t L 5 (D+i) (TT d p at_ E i))/\Hid (∀G,G<j->∀b,(L i)[G]?=some b->(b.bI d==d at_ i)=false)) (λF _=>len-(intOf F).toNat)
       case atStart=>exact⟨0,Nat.zero_le _,rfl,f.out,λG ea=>by omega⟩
       case round=>
        clear f;obtain⟨j,ck,rfl,f,hF⟩:=hrel;by_cases bt:j<len
        ·obtain⟨co,cp,a6,bz⟩:=f.out.row i z;rw[da.out]at a6
         obtain⟨rfl,rfl⟩:A=co/\c=cp:=by
          have M:=Option.some.inj a6;injection M with cq ec cs;exact⟨cq,cs⟩
         obtain⟨g,rfl,bx⟩:=bz j (by rw[<-a5.out];exact bt);obtain⟨b,s⟩:∃b,(L i)[j]?=some b:=⟨_,List.getElem?_eq_getElem (by rw[<-a5.out];exact bt)⟩;have dy:=Lib.hid s;have be:b∈L i:=List.mem_of_getElem? s;have P:Hid (okO p b):=d0.out i z b be;have b8:Hid (∀k u,b.aE[k]?=some u->wr.cell? ((⟨g,j* 7,none⟩:Addr).add k)=some u):=by
          show∀k,_;intro k u cv;rw[add_plain];exact bx wr (Below.refl _ _) b s k u cv
         have dd:Hid ((b.bI d==d at_ i)=true->cG d p at_ i=some b):=by
          show _->_;intro h;unfold cG;rw[bb.out i];exact Fu hF.out s h
         have de:Hid ((b.bI d==d at_ i)=false->∀G,G<j+1->∀b,(L i)[G]?=some b->(b.bI d==d at_ i)=false):=by
          show _->_;intro h G bq ei c5;rcases Nat.lt_or_ge G j with ac|ac
          ·exact hF.out G ac ei c5
          ·obtain rfl:G=j:=oO;rw[s]at c5;rw[<-Option.some.inj c5];exact h
         clear a6 bz s be bx hF;have a1:Hid (QS w (wr.alloc (.cells b.aE.toArray 181)) n B base o l cap hb p d t L 5 (D+i) (TT d p at_ E i)):=f.out.below (ax _ _);have bd:Hid (ak (wr.alloc (.cells b.aE.toArray 181)) wr.heap.size b.aE):=ak.new _ b.aE.toArray _ _ rfl;have ey:Hid (hb≠wr.heap.size):=by show _≠_;have:=f.out.M.lt;omega
         clear f
         go_wp2_with(first
          |((with_reducible show wpList _ _ _ (⟨_,Op.load 181 _,_,_,_,_⟩::_) _ _);refine bj rfl 181 _ rfl _ Tryz.underlying181 rfl ⟨g,j* 7,none⟩ b.aE fG rfl b8.out ?_)
          |((with_reducible show wpList _ _ _ (⟨_,Op.alloc 181,_,_,_,_⟩::_) _ _);refine aM rfl 181 rfl _ mR ?_)
          |((with_reducible show wpList _ _ _ (⟨_,Op.store 181 _ _,_,_,_,_⟩::_) _ _);refine aR rfl 181 _ _ rfl 181 _ b.aE rfl rfl fG rfl b.one ?_))
         generalize wr.alloc (.cells b.aE.toArray 181)=X at*;generalize wr.heap.size=a2 at*;obtain⟨U,av⟩:∃U,U=d at_ i:=⟨_,rfl⟩;have a0:=Lib.hid av;have es:(i:Int)<5:=oO;have y:Hid (∀W,af X W->W.cell? ⟨o,481,none⟩=some (.slice (some ⟨l,0,none⟩) (p.size+1) cap)/\W.cell? ⟨l,at_* 5+i,none⟩=some (.int .i64 (U:Int))):=by
          show∀W,_;intro W S;have M:=(a1.out.below S).S.S;exact⟨M.cc,by rw[av];exact M.cz at_ i oO z⟩
         clear av;obtain⟨T,bo⟩:∃T,T=b.bI d:=⟨_,rfl⟩;have V:=Lib.hid bo;clear bo;by_cases a9:T=U
         ·have c6:=Lib.hid (dd.out (by rw[<-V.out,<-a0.out,a9];simp));have ek:((T:Int)==(U:Int))=true:=by rw[beq_iff_eq];omega
          clear dd de a9;refine yO (af X) [1,2,4,5,6,7,8,9,10,11,12,0,3,0,13] (ai (Below.refl _ _)) ?_;refine zO y.out ?_;refine' zV rfl (λW S=>jV 181 _ Tryz.underlying181 rfl rfl a2 b.aE fG rfl (bd.out.below S)) ?_;refine zO y.out ?_;refine zO y.out ?_;refine zO y.out ?_;refine zO y.out ?_;refine zO y.out ?_;refine zO y.out ?_;refine zO y.out ?_;refine zO y.out ?_;refine zO y.out ?_;refine zZ ?_;refine(lr b _ o l cap hb p d (a1.out.below (ai (Below.refl _ _))).S.S P.out.1 P.out.2.1 P.out.2.2.1).mono ?_;rintro e O ⟨rfl,Y⟩;rw[<-V.out];have ad:Hid (af X O):=(ai (Below.refl _ _)).trans Y;clear Y;refine⟨_,rfl,ad.out,jO ?_⟩;refine zO y.out ?_;refine ag ?_;have K:Hid (QS w O n B base o l cap hb p d t L 5 (D+i) (TT d p at_ E i)):=a1.out.below ad.out;have bs:Hid (ak O a2 b.aE):=bd.out.below ad.out;clear a1 bd y ad;go_wp2;have a3:Hid (∀W,(W.cell? ⟨o,482,none⟩=some (.map (some hb))/\ak W a2 b.aE)->W.cell? ⟨o,482,none⟩=some (.map (some hb))):=λW S=>S.1;refine yO (λW=>W.cell? ⟨o,482,none⟩=some (.map (some hb))/\ak W a2 b.aE) [1,2,3,4,5,6,8,0,7,9] ⟨K.out.S.S.cm,bs.out.drew⟩ ?_;refine zO a3.out ?_;refine zO a3.out ?_;refine zO a3.out ?_;refine zO a3.out ?_;refine zO a3.out ?_;refine zO a3.out ?_;refine' zV rfl (λW S=>jV 181 _ Tryz.underlying181 rfl rfl a2 b.aE fG rfl S.2) ?_;refine' zQ (v:= .agg #[.int .i64 (at_:Int),.int .i64 (i:Int)]) (w':=O.drew) rfl (by go_simp) ⟨K.out.S.S.cm,bs.out.drew⟩ ?_;refine' DB (K.out.below (ai (Below.refl _ _))).M rfl _ _ _ rfl rfl at_ i rfl b rfl oO z oM ?_;intro dE d4 c7;have c8:Hid (QS w dE n B base o l cap hb p d t L 5 (D+i+1) (wi (TT d p at_ E i) at_ i b)):=(K.out.below (ai (Below.refl _ _))).put c7 d4;refine⟨⟨c8.out.S.S.cm,bs.out.drew.grown c7 (λq hq=>by injection hq with hq;rw[<-hq];exact ey.out)⟩,?_⟩;have c9:Hid (QS w dE n B base o l cap hb p d t L 5 (D+(i+1)) (TT d p at_ E (i+1))):=c8.out.vx oO (λa m b _ _ h=>TT.some_ c6.out h);clear K bs c8 a3 d4 c7;simp only[Act.put];refine ag ?_;go_wp2;exact⟨⟨i+1,by omega,by go_num,c9.out⟩,by simp[intOf];omega⟩
         ·have c6:=Lib.hid (de.out (by rw[<-V.out,<-a0.out,beq_eq_false_iff_ne];exact a9));have ek:((T:Int)==(U:Int))=false:=by rw[beq_eq_false_iff_ne];omega
          clear dd de a9;refine yO (af X) [1,2,4,5,6,7,8,9,10,11,12,0,3,0,13] (ai (Below.refl _ _)) ?_;refine zO y.out ?_;refine' zV rfl (λW S=>jV 181 _ Tryz.underlying181 rfl rfl a2 b.aE fG rfl (bd.out.below S)) ?_;refine zO y.out ?_;refine zO y.out ?_;refine zO y.out ?_;refine zO y.out ?_;refine zO y.out ?_;refine zO y.out ?_;refine zO y.out ?_;refine zO y.out ?_;refine zO y.out ?_;refine zZ ?_;refine(lr b _ o l cap hb p d (a1.out.below (ai (Below.refl _ _))).S.S P.out.1 P.out.2.1 P.out.2.2.1).mono ?_;rintro e O ⟨rfl,Y⟩;rw[<-V.out];have ad:Hid (af X O):=(ai (Below.refl _ _)).trans Y;clear Y;refine⟨_,rfl,ad.out,jO ?_⟩;refine zO y.out ?_;refine ag ?_;have K:Hid (QS w O n B base o l cap hb p d t L 5 (D+i) (TT d p at_ E i)):=a1.out.below ad.out;have bs:Hid (ak O a2 b.aE):=bd.out.below ad.out;clear a1 bd y ad;go_wp2;exact⟨⟨j+1,by omega,by go_num,K.out,c6.out⟩,by simp[intOf];omega⟩
        ·have ca:j=len:=oO;have ez:Hid (cG d p at_ i=none):=by
          show _=_;unfold cG;rw[bb.out i];exact G2 (λG bq=>hF.out G (by rw[ca,a5.out];exact bq))
         have c9:Hid (QS w wr n B base o l cap hb p d t L 5 (D+(i+1)) (TT d p at_ E (i+1))):=f.out.vx oO (λa m b _ _ h=>TT.none_ ez.out h);clear f hF;go_wp2;exact⟨⟨i+1,by omega,by go_num,c9.out⟩,by simp[intOf];omega⟩
      ·have bf:i=5:=oO;have el:Hid (SQ wr o l cap hb p d/\qw C d p at_/\cO wr hb (D+5) (λa m=>if a=at_ then cG d p at_ m else E a m)/\Below n w wr):=by
        have M:=f.out;rw[bf]at M;refine⟨M.S,d3.out,M.M.vx (Nat.le_refl _) (λa m b _ N h=>?_),M.B⟩;unfold TT;by_cases e:a=at_
        ·rw[if_pos e]at h⊢;rw[if_pos N];exact h
        ·rw[if_neg e]at h⊢;exact h
       clear f d3 bb;go_wp2;refine bodyPost_end (results_none rfl _ _ _) rfl ?_;exact⟨rfl,d,el.out⟩
end
section
open Go.RowKit
section
variable {P : Program} {ops : Array Oper} {md : Region.Mode} {S : World → Prop}
def qz:List (Bool×Nat)->Array Bool->Array Bool
 |[],L=>L
 |(_,k)::r,L=>qz r (L.setIfInBounds k true)
def preOB (md:Region.Mode) (ops:Array Oper):List (Bool×Nat)->Array Bool->Bool
 |[],_=>true
 |(true,k)::r,L=>decide (Region.ready md ops L=[k])&&preOB md ops r (L.setIfInBounds k true)
 |(false,k)::r,L=>(Region.ready md ops L).contains k&&Region.free md ops L k&&preOB md ops r (L.setIfInBounds k true)
theorem nW {K K':Act->World->Prop} (d:Region.noSelect ops=true) (n:Nat):∀(l:List (Bool×Nat)) (L:Array Bool) (a:Act) (w:World),S w->preOB md ops l L=true->
 (∀a w,S w->K' a w->kC P md ops S K n (qz l L) a w)->ye P ops S K' l a w->kC P md ops S K (n+l.length) L a w
 |[],L,a,w,b,_,c,h=>c a w b h
 |(true,k)::r,L,a,w,b,hB,c,h=>by
  simp only[preOB,Bool.and_eq_true,decide_eq_true_eq]at hB;exact tf hB.1 (vK (λa' w' j f=>nW d n r _ a' w' j hB.2 c f) h)
 |(false,k)::r,L,a,w,b,hB,c,h=>by
  simp only[preOB,Bool.and_eq_true]at hB;obtain⟨m,e,v,g,i⟩:=h;exact sK e (Region.noSelect_spec d) (n+r.length) L a w b (Region.free_spec e hB.1.2) (by simpa using hB.1.1) g (nW d n r _ _ w b hB.2 c i)
theorem l6 {l:List Oper} {K:Act->World->Prop}:∀(e:List (Bool×Nat)) (L:Array Bool) (a:Act) (w:World),preOB md l.toArray e L=true->bn P l.toArray S K (attachW l e) a w->ye P l.toArray S K e a w
 |[],_,_,_,_,h=>h
 |(true,k)::r,L,a,w,hB,h=>by
  simp only[preOB,Bool.and_eq_true,decide_eq_true_eq]at hB;have c:k<l.toArray.size:=mQ (md:=md) (listed:=L) (by rw[hB.1];simp);have d:l[k]?=some l[k]:=List.getElem?_eq_getElem (by simpa using c);simp only[attachW,d]at h;refine⟨l[k],by simp,?_⟩;rcases h with h|h
  ·exact .inl ⟨h.1,lJ (λv w' b=>⟨b.1,l6 r _ _ _ hB.2 b.2⟩) h.2⟩
  ·exact .inr ⟨h.1,h.2.1,l6 r _ _ _ hB.2 h.2.2⟩
 |(false,k)::r,L,a,w,hB,h=>by
  simp only[preOB,Bool.and_eq_true]at hB;have c:k<l.toArray.size:=mQ (md:=md) (listed:=L) (by simpa using hB.1.1);have d:l[k]?=some l[k]:=List.getElem?_eq_getElem (by simpa using c);simp only[attachW,d]at h;obtain⟨v,f,b⟩:=h;exact⟨l[k],by simp,v,f,l6 r _ _ _ hB.2 b⟩
inductive OT where
 |last (l:List (Bool×Nat))
 |br (l:List (Bool×Nat)) (a:List Nat) (f:Nat->OT)
def treeB (md:Region.Mode) (ops:Array Oper):OT->Nat->Array Bool->Bool
 |.last l,n,L=>decide (n=l.length)&&preOB md ops l L&&(Region.ready md ops (qz l L)).isEmpty
 |.br l a f,n,L=>decide (l.length+1<=n)&&preOB md ops l L&&decide (Region.ready md ops (qz l L)=a)&&!a.isEmpty&&a.all λk=>treeB md ops (f k) (n-l.length-1) ((qz l L).setIfInBounds k true)
def wpTree (P:Program) (l:List Oper) (S:World->Prop) (K:Act->World->Prop):OT->Act->World->Prop
 |.last b=>bn P l.toArray S K (attachW l b)
 |.br b c f=>bn P l.toArray S (λa w=>∀k∈c,bn P l.toArray S (wpTree P l S K (f k)) (attachW l [(true,k)]) a w) (attachW l b)
theorem mW {l:List Oper} {K:Act->World->Prop} (j:Region.noSelect l.toArray=true):∀(o:OT) (n:Nat) (L:Array Bool) (a:Act) (w:World),S w->treeB md l.toArray o n L=true->wpTree P l S K o a w->kC P md l.toArray S K n L a w
 |.last b,n,L,a,w,d,hB,h=>by
  simp only[treeB,Bool.and_eq_true,decide_eq_true_eq]at hB;rw[hB.1.1,<-Nat.zero_add b.length];exact nW (K':=K) j 0 b L a w d hB.1.2 (λa w _ h=>⟨by simpa using hB.2,h⟩) (l6 b L a w hB.1.2 h)
 |.br b y f,n,L,a,w,d,hB,h=>by
  simp only[treeB,Bool.and_eq_true,decide_eq_true_eq]at hB;obtain⟨⟨⟨⟨z,p⟩,k⟩,q⟩,s⟩:=hB;have e:n=(n-b.length-1+1)+b.length:=oO;rw[e];refine nW j (n-b.length-1+1) b L a w d p (λa w d h=>?_) (l6 b L a w p h);refine⟨by rw[k];intro t;rw[t]at q;simp at q,λi g=>?_⟩;rw[k]at g;have u:i<l.toArray.size:=mQ (md:=md) (listed:=qz b L) (by rw[k];exact g);have x:l[i]?=some l[i]:=List.getElem?_eq_getElem (by simpa using u);have c:=h i g;simp only[attachW,x]at c;have r:=List.all_eq_true.1 s i g;refine⟨l[i],by simp,?_⟩;rcases c with c|c
  ·exact .inl ⟨c.1,lJ (λv w' m=>⟨m.1,mW j (f i) _ _ _ _ m.1 r m.2⟩) c.2⟩
  ·exact .inr ⟨c.1,c.2.1,mW j (f i) _ _ _ _ c.2.1 r c.2.2⟩
theorem lO {l:Array Oper} {K K':Act->World->Prop} (h:∀a w,K a w->K' a w):∀(r:List (Bool×Nat×Oper)) (a:Act) (w:World),bn P l S K r a w->bn P l S K' r a w
 |[],a,w,c=>h _ _ c
 |(true,_,e)::r,a,w,c=>by
  rcases c with b|b
  ·exact .inl ⟨b.1,lJ (λv w' d=>⟨d.1,lO h r _ _ d.2⟩) b.2⟩
  ·exact .inr ⟨b.1,b.2.1,lO h r _ _ b.2.2⟩
 |(false,_,e)::r,a,w,c=>by
  obtain⟨v,b,d⟩:=c;exact⟨v,b,lO h r _ _ d⟩
theorem vj {l:List Oper} {K K':Act->World->Prop} (h:∀a w,K a w->K' a w):∀(c:OT) (a:Act) (w:World),wpTree P l S K c a w->wpTree P l S K' c a w
 |.last d,a,w,b=>lO h _ _ _ b
 |.br d j f,a,w,b=>lO (λa w e k g=>lO (λa w i=>vj h (f k) a w i) _ _ _ (e k g)) _ _ _ b
theorem uY {id:Nat} {Q:Exit->Act->World->Prop} {a:Act} {w:World} {l:List Oper} (b:OT) (c:P.follows .mixedOrders=true) (hB:(Region.noSelect l.toArray&&treeB .any l.toArray b l.toArray.size (Array.replicate l.toArray.size false))=true)
 (d:S w.drew) (h:wpTree P l S (λa' W=>wpList P l.toArray Q [] a' W) b a w.drew):(Code.region id l.toArray true).wp P Q a w:=by
 simp only[Bool.and_eq_true]at hB;refine wp_region_any c ?_;exact nZ (S:=S) _ _ _ _ (mW (K:=Q .normal) hB.1 b _ _ a w.drew d hB.2 h)
theorem ja {id:Nat} {Q:Exit->Act->World->Prop} {a:Act} {w:World} {l:List Oper} (b:OT) (c:Act->Act->World->Prop) (d:P.follows .mixedOrders=true) (hB:(Region.noSelect l.toArray&&treeB .any l.toArray b l.toArray.size (Array.replicate l.toArray.size false))=true)
 (e:S w.drew) (h:wpTree P l S (c a) b a w.drew) (f:∀a' W,c a a' W->wpList P l.toArray Q [] a' W):(Code.region id l.toArray true).wp P Q a w:=by
 simp only[Bool.and_eq_true]at hB;refine wp_region_any d ?_;exact nZ (S:=S) _ _ _ _ (mW (K:=Q .normal) hB.1 b _ _ a w.drew e hB.2 (vj (λa' W h=>f a' W h) b _ _ h))
end
end
section
open Go.RowKit Go.WideMaps Go.Maps
theorem oJ (off:Nat):∀(a:List Value) (s:Nat) (cells:Array Value),((a.zipIdx s).foldl (λb (x:Value×Nat)=>b.setIfInBounds (off+x.2) x.1) cells).size=cells.size
 |[],_,_=>rfl
 |x::a,s,cells=>by
  rw[List.zipIdx_cons,List.foldl_cons,oJ off a (s+1)];simp
theorem qo (off:Nat):∀(a:List Value) (s:Nat) (cells:Array Value) (i:Nat),off+s+a.length<=cells.size->
 ((a.zipIdx s).foldl (λc (x:Value×Nat)=>c.setIfInBounds (off+x.2) x.1) cells)[i]?=if off+s<=i/\i<off+s+a.length then a[i-(off+s)]? else cells[i]?
 |[],s,cells,i,_=>by rw[if_neg (by simp only[List.length_nil];omega)];rfl
 |x::a,s,cells,i,h=>by
  rw[List.zipIdx_cons,List.foldl_cons,qo off a (s+1) _ i (by simp only[List.length_cons]at h;simp;omega)];simp only[List.length_cons]at h⊢;by_cases d:i=off+s
  ·subst d;rw[if_neg oO,if_pos oO,Nat.sub_self,List.getElem?_cons_zero,Array.getElem?_setIfInBounds_self_of_lt oO]
  ·by_cases b:off+(s+1)<=i/\i<off+(s+1)+a.length
   ·rw[if_pos b,if_pos oO];rw[show i-(off+s)=(i-(off+(s+1)))+1 from by omega,List.getElem?_cons_succ]
   ·rw[if_neg b,if_neg oO];rw[Array.getElem?_setIfInBounds_ne oO]
def yG:Array Value:=(Value.string ByteArray.empty::cg.toList++[Value.slice none 0 0,Value.map none]).toArray
theorem AZ:(Tryz.prog.info? 175).map (·.zero)=some (some (.agg yG)):=oK
theorem Bx:yG.size=483:=oK
theorem BC:(Tryz.prog.underlying 175).map (λd=>match d with|.struct a=>a.toList.mapM (λf=>(Tryz.prog.info? f.type).map λi=>(f.offset,i.size))|_=>none)=some (some [(0,1),(1,480),(481,1),(482,1)]):=oK
theorem o4 (off:Nat) (Z:Array Value) (v:Value):Array.foldl (λa (x:Value×Nat)=>a.setIfInBounds (off+x.2) x.1) Z #[v].zipIdx=Z.setIfInBounds off v:=rfl
theorem jc (p:ByteArray) (s m:Value) (hs:s.cells=#[s]) (r:m.cells=#[m]):∃R:Array Value,Tryz.prog.built 175 [(0,.string p),(1,.agg eg),(2,s),(3,m)]=some R/\R.size=483/\R[0]?=some (.string p)/\(∀i v,eg[i]?=some v->R[1+i]?=some v)/\R[481]?=some s/\R[482]?=some m:=by
 have c:=AZ;have e:=BC;have k:=Bx;have l:=ni;generalize yG=Z at*;generalize eg=Tb at*;cases f:Tryz.prog.info? 175 with
 |none=>rw[f]at c;cases c
 |some t=>
  cases j:Tryz.prog.underlying 175 with
  |none=>rw[j]at e;cases e
  |some d=>
   rw[f]at c;rw[j]at e;have y:t.zero=some (.agg Z):=Option.some.inj c;have n:=Option.some.inj e;cases d<;>(try(simp at n;done))
   rename_i z
   simp only at n;unfold Program.built;rw[f,j];simp only[y,n];have u:(Value.string p).cells=#[.string p]:=rfl;have e1:(Value.agg Tb).cells=Tb:=rfl;have e2:(Value.agg Z).cells=Z:=rfl;have o:(Z.setIfInBounds 0 (.string p)).size=483:=by simp[k]
   have key:∀(Y:Array Value),Y.size=483->(Tb.zipIdx.foldl (λa (x:Value×Nat)=>a.setIfInBounds (1+x.2) x.1) Y).size=483/\∀i,(Tb.zipIdx.foldl (λa (x:Value×Nat)=>a.setIfInBounds (1+x.2) x.1) Y)[i]?=if 1<=i/\i<481 then Tb[i-1]? else Y[i]?:=by
    intro Y g;have hl:Tb.toList.length=480:=by rw[Array.length_toList];exact l
    have w:Tb.zipIdx.foldl (λa (x:Value×Nat)=>a.setIfInBounds (1+x.2) x.1) Y=(Tb.toList.zipIdx 0).foldl (λa (x:Value×Nat)=>a.setIfInBounds (1+x.2) x.1) Y:=by
     rw[<-Array.foldl_toList,Array.toList_zipIdx]
    rw[w];refine⟨by rw[oJ];exact g,λi=>?_⟩;rw[qo 1 Tb.toList 0 Y i (by rw[hl,g];omega),hl];simp only[Nat.add_zero,Array.getElem?_toList]
   have b:=key _ o;simp only[Instr.fill,List.getElem?_toArray,List.getElem?_cons_zero,List.getElem?_cons_succ,u,e1,e2,hs,r,List.size_toArray,List.length_cons,List.length_nil,l,k,ne_eq,not_true_eq_false,decide_false,Bool.false_or];rw[o4,o4,o4];obtain⟨Y,g⟩:∃Y,Y=Array.foldl (λa (x:Value×Nat)=>a.setIfInBounds (1+x.2) x.1) (Z.setIfInBounds 0 (.string p)) Tb.zipIdx:=⟨_,rfl⟩;rw[<-g]at b⊢;have k3:(Y.setIfInBounds 481 s).size=483:=by simp[b.1]
   rw[if_neg oS,if_neg (by rw[o];simp),if_neg (by rw[b.1];simp),if_neg (by rw[k3];simp)];refine⟨_,rfl,by simp[b.1],?_,λi v q=>?_,?_,?_⟩
   ·rw[Array.getElem?_setIfInBounds_ne oO,Array.getElem?_setIfInBounds_ne oO,b.2,if_neg oO];simp[k]
   ·have f:i<480:=by rw[<-l];exact(Array.getElem?_eq_some_iff.1 q).1
    rw[Array.getElem?_setIfInBounds_ne oO,Array.getElem?_setIfInBounds_ne oO,b.2,if_pos oO,Nat.add_sub_cancel_left];exact q
   ·rw[Array.getElem?_setIfInBounds_ne oO];simp[b.1]
   ·simp[b.1]
theorem q8 {a:Act} {f:Oper} {W:World} {x:Operand} (g:f.op= .convert 22 9 x) {A:Option Addr} {n c:Nat} {l:List UInt8} (i:a.eval x= .slice A n c) (h:SR vU 0 W A n c l):
 (execOp a.eval f).run Tryz.prog W= .ok (.value (.string ⟨l.toArray⟩)) W:=by
 have hn:=h.hn;have k:(convert 22 9 (.slice A n c)).run Tryz.prog W= .ok (.string ⟨l.toArray⟩) W:=by
  rcases Nat.eq_zero_or_pos l.length with d|d
  ·have hl:l=[]:=List.eq_nil_of_length_eq_zero d;subst hl;rw[hn];cases A with
   |none=>rw[run_convert_bytes_string W _ _ 5 _ _ _ Tryz.underlying22 Tryz.underlying5 Tryz.underlying9];rfl
   |some e=>exact run_convert_bytes_back W _ _ 5 e c [] Tryz.underlying22 Tryz.underlying5 Tryz.underlying9 (λj b=>by simp at b)
  ·obtain⟨e,rfl,_,hc⟩:=h.rd d;rw[hn];exact run_convert_bytes_back W _ _ 5 e c l Tryz.underlying22 Tryz.underlying5 Tryz.underlying9 (λj b=>by rw[hc j b];simp[List.getD,b])
 unfold execOp;simp only[g,i,k,Sem.run_bind,Sem.run_pure,Result.andThen_ok]
def uD (W:World) (c n:Nat):Prop:=∃a b,W.heap[c]?=some (.cells a b (0,0))/\∀i,i<5* (n+1)->a[i]?=some (.int .i64 0)
theorem uD.below {W a:World} {b n:Nat} (h:uD W b n) (hb:Below W.heap.size W a):uD a b n:=by
 obtain⟨f,d,c,e⟩:=h;exact⟨f,d,(hb.block _ (ar c)).trans c,e⟩
theorem Lx:(Tryz.prog.info? 131).map (λi=>(i.zero,i.size,i.bytes))=some (some (.agg #[.int .i64 0,.int .i64 0,.int .i64 0,.int .i64 0,.int .i64 0]),5,40):=oK
theorem EU {a:Act} {b:Oper} {W:World} {l c:Operand} (g:b.op= .makeSlice 172 l c) (n:Nat) (hn:n<=4096) (hl:a.eval l= .int .i64 ((n+1:Nat):Int)) (hc:a.eval c= .int .i64 ((n+1:Nat):Int)):
 ∃d,(execOp a.eval b).run Tryz.prog W= .ok (.value (.slice (some ⟨W.heap.size,0,none⟩) (n+1) (n+1))) d/\uD d W.heap.size n/\Below W.heap.size W d:=by
 obtain⟨j,f,m,o,p⟩:=info_parts Lx;have e:=run_make (P:=Tryz.prog) W 172 131 j _ Tryz.underlying172 f m .i64 .i64 ((n+1:Nat):Int) ((n+1:Nat):Int) oO (Int.le_refl _) (by rw[p];omega) oO;simp only[Int.toNat_natCast]at e;rw[o]at e;have q:(execOp a.eval b).run Tryz.prog W= .ok (.value (.slice (some ⟨W.heap.size,0,none⟩) (n+1) (n+1))) (W.alloc (.cells (madeCells #[Value.int .i64 0,.int .i64 0,.int .i64 0,.int .i64 0,.int .i64 0] ((n+1)* 5)) 131)):=by
  unfold execOp;simp only[g,hl,hc,e,Sem.run_bind,Sem.run_pure,Result.andThen_ok];rfl
 refine⟨_,q,⟨_,_,heap_alloc_new W _,λi f=>?_⟩,ax _ _⟩;unfold madeCells;rw[Array.getElem?_map,Array.getElem?_range,if_pos oO];have k:i%5=0\/i%5=1\/i%5=2\/i%5=3\/i%5=4:=oO;show some (#[Value.int .i64 0,.int .i64 0,.int .i64 0,.int .i64 0,.int .i64 0][i%5]!)=_;rcases k with h|h|h|h|h<;>rw[h]<;>rfl
theorem Fb {a:Act} {b:Oper} {W:World} (c:b.op= .makeMap 173 none):
 (execOp a.eval b).run Tryz.prog W= .ok (.value (.map (some W.heap.size))) (W.alloc (.map #[] 0))/\cO (W.alloc (.map #[] 0)) W.heap.size 0 (λ_ _=>none):=by
 refine⟨?_,.map [],Maps.isMap_empty,World.ownsMap_made _ _ _ _,λa m b _ _ h=>by cases h⟩;unfold execOp;simp only[c,Sem.run_bind,Sem.run_pure];rfl
theorem jI {a:Act} {d:Oper} {W:World} {x0 e f g:Operand} (i:d.op= .build 175 #[(0,x0),(1,e),(2,f),(3,g)]) {p:ByteArray} {A:Option Addr} {n c:Nat} {b:Option Nat}
 (j:a.eval x0= .string p) (k:a.eval e= .agg eg) (l:a.eval f= .slice A n c) (m:a.eval g= .map b) (R:Array Value) (o:Tryz.prog.built 175 [(0,.string p),(1,.agg eg),(2,.slice A n c),(3,.map b)]=some R):
 (execOp a.eval d).run Tryz.prog W= .ok (.value (.agg R)) W:=by
 have q:=run_build (P:=Tryz.prog) W 175 #[(0,.string p),(1,.agg eg),(2,.slice A n c),(3,.map b)] R o;unfold execOp;simp only[i,List.map_toArray,List.map_cons,List.map_nil,j,k,l,m,q,Sem.run_bind,Sem.run_pure,Result.andThen_ok]
theorem lA {a:Act} {b:Oper} {W:World} {x:Operand} (c:b.op= .box 175 x) {R:Array Value} (d:a.eval x= .agg R):
 (execOp a.eval b).run Tryz.prog W= .ok (.value (.pointer (some ⟨W.heap.size,0,none⟩))) (W.alloc (.cells R 175)):=by
 unfold execOp;simp only[c,d,Instr.box,newVar,newRow,Value.cells,Sem.run_bind,Sem.run_pure];rfl
theorem SQ.made {X:World} {p:ByteArray} {b hb n:Nat} {R:Array Value} (k:uD X b n) (c:cO X hb 0 (λ_ _=>none)) (hn:n=p.size) (l:p.size<=4096)
 (o:R[0]?=some (.string p)) (q:∀i v,eg[i]?=some v->R[1+i]?=some v) (r:R[481]?=some (.slice (some ⟨b,0,none⟩) (n+1) (n+1))) (s:R[482]?=some (.map (some hb))):
 SQ (X.alloc (.cells R 175)) X.heap.size b (n+1) hb p (λ_ _=>0)/\cO (X.alloc (.cells R 175)) hb 0 (λ_ _=>none):=by
 have w:cO (X.alloc (.cells R 175)) hb 0 (λ_ _=>none):=c.below (ax _ _);obtain⟨x,j,d,t⟩:=k;have y:b<X.heap.size:=ar d;have g:(X.alloc (.cells R 175)).heap[b]?=some (.cells x j (0,0)):=(Below.heap_alloc X _ _ y).trans d;have hs:∀i,(X.alloc (.cells R 175)).cell? ⟨X.heap.size,i,none⟩=R[i]?:=λi=>World.cell?_alloc_at _ _ _ _ rfl;have z:hb≠b:=by
  intro e;obtain⟨D,_,⟨A,clock,f,_⟩,_⟩:=c;rw[e,d]at f;cases f
 refine⟨⟨⟨by simp,by rw[hs];exact o,λi v u=>by rw[hs];exact q i v u,by rw[hs,<-hn];exact r,by rw[hs];exact s,by simp;omega,λa m B C=>?_,by omega,l,λ_ _=>Nat.zero_le _⟩,⟨by simp;omega,λi E=>frozen_of_row _ _ _ _ _ g⟩,by omega,by have:=c.lt;omega,z⟩,w⟩;rw[cell_of_row _ _ _ _ _ _ g];exact t _ oO
theorem lU {e:Array Oper} {S:World->Prop} {K:Act->World->Prop} {r:List (Bool×Nat×Oper)} {k:Nat} {d:Oper} {a:Act} {W:World} {l c:Operand} (m:Region.wanted d (yielded e a.tmps)=true) (j:d.op= .makeSlice 172 l c) (n:Nat) (hn:n<=4096) (hl:a.eval l= .int .i64 ((n+1:Nat):Int)) (hc:a.eval c= .int .i64 ((n+1:Nat):Int))
 (f:∀b,uD b W.heap.size n->Below W.heap.size W b->S b/\bn Tryz.prog e S K r (a.put d.dst (.slice (some ⟨W.heap.size,0,none⟩) (n+1) (n+1))) b):bn Tryz.prog e S K ((true,k,d)::r) a W:=by
 obtain⟨b,o,g,i⟩:=EU (a:=a) j n hn hl hc;exact fD m o (f b g i).1 (f b g i).2
theorem lY {d:Array Oper} {S:World->Prop} {K:Act->World->Prop} {r:List (Bool×Nat×Oper)} {k:Nat} {b:Oper} {a:Act} {W:World} (i:Region.wanted b (yielded d a.tmps)=true) (g:b.op= .makeMap 173 none)
 (e:∀c,cO c W.heap.size 0 (λ_ _=>none)->Below W.heap.size W c->S c/\bn Tryz.prog d S K r (a.put b.dst (.map (some W.heap.size))) c):bn Tryz.prog d S K ((true,k,b)::r) a W:=by
 obtain⟨j,f⟩:=Fb (a:=a) (W:=W) g;exact fD i j (e _ f (ax _ _)).1 (e _ f (ax _ _)).2
theorem FE {p:ByteArray} {l:List UInt8} (d:p=⟨l.toArray⟩) {a:Act} {b:Oper} {W:World} {x:Operand} (e:b.op= .convert 22 9 x) {A:Option Addr} {n c:Nat} (f:a.eval x= .slice A n c) (h:SR vU 0 W A n c l):
 (execOp a.eval b).run Tryz.prog W= .ok (.value (.string p)) W:=by
 subst d;exact q8 e f h
def MW (w:World) (p:ByteArray) (A:Option Addr) (n c:Nat) (a a':Act) (W:World):Prop:=∃(b d hb:Nat) (R:Array Value),
 a'=⟨#[.slice A n c,undef,.pointer none,.int .i64 (n:Int),.pointer (some ⟨b,0,none⟩),undef,.slice A n c,.int .i64 (n:Int),.slice A n c,.string p,.agg eg,.int .i64 (n:Int),.int .i64 ((n+1:Nat):Int),.slice (some ⟨d,0,none⟩) (n+1) (n+1),.map (some hb),.agg R,.pointer (some ⟨b,0,none⟩),undef,undef,undef,undef,undef,undef,undef,undef,undef,undef],[]⟩/\
 SQ W b d (n+1) hb p (λ_ _=>0)/\cO W hb 0 (λ_ _=>none)/\Below w.heap.size w W/\w.heap.size<=b/\w.heap.size<=d/\w.heap.size<=hb
theorem AA (A:Option Addr) (n c:Nat) (l:List UInt8) (w:World) (hb:SR vU 0 w A n c l) (hn:n<=4096):
 Calls Tryz.prog 80 #[.slice A n c] w λe w'=>∃v y cap hb C u,e= .returned (.pointer (some ⟨v,0,none⟩))/\SQ w' v y cap hb ⟨l.toArray⟩ C/\cO w' hb (5* n) u/\
  (∀a,a<n->lX C ⟨l.toArray⟩ a/\∀m,u a m=cG C ⟨l.toArray⟩ a m)/\(∀a m,n<=a->C a m=0)/\Below w.heap.size w w':=by
 obtain⟨p,L⟩:∃p:ByteArray,p=⟨l.toArray⟩:=⟨_,rfl⟩;have be:n=p.size:=by rw[hb.hn,L];show l.length=l.toArray.size;simp
 have av:p.size<=4096:=oO;rw[<-L];have dk:=Lib.hid L;have c8:=Lib.hid hb;have eq:IntKind.i64.wrap ((n:Int)+1)=((n+1:Nat):Int):=by rw[aF _ oO oO];omega
 have o:=Lib.hid be;have q:=Lib.hid av;clear hb L be av;go_enter Tryz.func80,Tryz.ntmps80;go_wp2;have x:Hid (af w w.drew):=ai (Below.refl _ _);refine ja (S:=af w) (.br [(false,0),(false,1),(false,3),(false,4)] [2,5,6] (λk=>if k=2 then .br [] [5,6] (λk=>if k=5 then .last [(true,6),(false,7),(true,8),(false,9)]else .last [(true,5),(false,7),(true,8),(false,9)])else if k=5 then .br [] [2,6] (λk=>if k=2 then .last [(true,6),(false,7),(true,8),(false,9)]else .last [(true,2),(false,7),(true,8),(false,9)])else .br [] [2,5] (λk=>if k=2 then .last [(true,5),(false,7),(true,8),(false,9)]else .last [(true,2),(false,7),(true,8),(false,9)]))) (MW w p A n c) oK oK x.out ?_ ?_
 ·simp only[wpTree,attachW,List.getElem?_cons_zero,List.getElem?_cons_succ];refine zU ?_;refine' zV rfl (λW s=>FE dk.out rfl rfl (c8.out.below s)) ?_;refine zU ?_;refine zU ?_;refine ag ?_;intro k r;simp only[List.mem_cons,List.not_mem_nil,or_false]at r;rcases r with rfl|rfl|rfl
  ·simp only[reduceIte,Nat.reduceEqDiff,wpTree,attachW,List.getElem?_cons_zero,List.getElem?_cons_succ];refine zZ ?_;refine(lf _).mono ?_;rintro e X ⟨rfl,dl⟩;have F:Hid (af w X):=ae x.out dl;refine⟨_,rfl,F.out,jO ?_⟩;refine ag ?_
   (try simp only[reduceIte,Nat.reduceEqDiff,wpTree,attachW,List.getElem?_cons_zero,List.getElem?_cons_succ])
   refine ag ?_;intro k r;simp only[List.mem_cons,List.not_mem_nil,or_false]at r;rcases r with rfl|rfl
   ·simp only[reduceIte,wpTree,attachW,List.getElem?_cons_zero,List.getElem?_cons_succ];refine' lU rfl rfl n hn rfl rfl ?_;intro a0 dn dp;have ab:Hid (af w a0):=ae F.out dp;have ds:=Lib.hid dn;refine⟨ab.out,?_⟩;simp only[yQ,yU,yX,yY];refine ag ?_
    (try simp only[reduceIte,Nat.reduceEqDiff,wpTree,attachW,List.getElem?_cons_zero,List.getElem?_cons_succ])
    refine' lY rfl rfl ?_;intro a1 dv bf;have M:Hid (af w a1):=ae ab.out bf;have bi:=Lib.hid (ds.out.below bf);have bo:=Lib.hid dv;refine⟨M.out,?_⟩;simp only[yQ,yU,yX,yY];obtain⟨R,t,G,b,d,f,g⟩:=jc p (.slice (some ⟨_,0,none⟩) (n+1) (n+1)) (.map (some _)) rfl rfl;refine' zV rfl (λW s=>jI rfl rfl rfl rfl rfl R t) ?_;refine' zQ rfl (lA rfl rfl) (ah M.out _) ?_;refine zU ?_;refine ag ?_;exact⟨a1.heap.size,X.heap.size,a0.heap.size,R,rfl,(SQ.made bi.out bo.out o.out q.out b d f g).1,(SQ.made bi.out bo.out o.out q.out b d f g).2,ah M.out _,M.out.size,F.out.size,ab.out.size⟩
   ·simp only[reduceIte,Nat.reduceEqDiff,wpTree,attachW,List.getElem?_cons_zero,List.getElem?_cons_succ];refine' lY rfl rfl ?_;intro a2 dx dy;have ac:Hid (af w a2):=ae F.out dy;have dz:=Lib.hid dx;refine⟨ac.out,?_⟩;simp only[yQ,yU,yX,yY];refine ag ?_
    (try simp only[reduceIte,Nat.reduceEqDiff,wpTree,attachW,List.getElem?_cons_zero,List.getElem?_cons_succ])
    refine' lU rfl rfl n hn rfl rfl ?_;intro a3 dE bq;have N:Hid (af w a3):=ae ac.out bq;have bs:=Lib.hid (dz.out.below bq);have bt:=Lib.hid dE;refine⟨N.out,?_⟩;simp only[yQ,yU,yX,yY];obtain⟨R,t,G,b,d,f,g⟩:=jc p (.slice (some ⟨_,0,none⟩) (n+1) (n+1)) (.map (some _)) rfl rfl;refine' zV rfl (λW s=>jI rfl rfl rfl rfl rfl R t) ?_;refine' zQ rfl (lA rfl rfl) (ah N.out _) ?_;refine zU ?_;refine ag ?_;exact⟨a3.heap.size,a2.heap.size,X.heap.size,R,rfl,(SQ.made bt.out bs.out o.out q.out b d f g).1,(SQ.made bt.out bs.out o.out q.out b d f g).2,ah N.out _,N.out.size,ac.out.size,F.out.size⟩
  ·simp only[reduceIte,Nat.reduceEqDiff,wpTree,attachW,List.getElem?_cons_zero,List.getElem?_cons_succ];refine' lU rfl rfl n hn rfl rfl ?_;intro a4 d0 O;have D:Hid (af w a4):=ae x.out O;have bv:=Lib.hid d0;refine⟨D.out,?_⟩;simp only[yQ,yU,yX,yY];refine ag ?_
   (try simp only[reduceIte,Nat.reduceEqDiff,wpTree,attachW,List.getElem?_cons_zero,List.getElem?_cons_succ])
   refine ag ?_;intro k r;simp only[List.mem_cons,List.not_mem_nil,or_false]at r;rcases r with rfl|rfl
   ·simp only[reduceIte,wpTree,attachW,List.getElem?_cons_zero,List.getElem?_cons_succ];refine zZ ?_;refine(lf _).mono ?_;rintro e a5 ⟨rfl,bx⟩;have ad:Hid (af w a5):=ae D.out bx;have d1:=Lib.hid (bv.out.below bx);refine⟨_,rfl,ad.out,jO ?_⟩;refine ag ?_
    (try simp only[reduceIte,Nat.reduceEqDiff,wpTree,attachW,List.getElem?_cons_zero,List.getElem?_cons_succ])
    refine' lY rfl rfl ?_;intro a6 d2 bz;have P:Hid (af w a6):=ae ad.out bz;have b1:=Lib.hid (d1.out.below bz);have b2:=Lib.hid d2;refine⟨P.out,?_⟩;simp only[yQ,yU,yX,yY];obtain⟨R,t,G,b,d,f,g⟩:=jc p (.slice (some ⟨_,0,none⟩) (n+1) (n+1)) (.map (some _)) rfl rfl;refine' zV rfl (λW s=>jI rfl rfl rfl rfl rfl R t) ?_;refine' zQ rfl (lA rfl rfl) (ah P.out _) ?_;refine zU ?_;refine ag ?_;exact⟨a6.heap.size,w.drew.heap.size,a5.heap.size,R,rfl,(SQ.made b1.out b2.out o.out q.out b d f g).1,(SQ.made b1.out b2.out o.out q.out b d f g).2,ah P.out _,P.out.size,x.out.size,ad.out.size⟩
   ·simp only[reduceIte,Nat.reduceEqDiff,wpTree,attachW,List.getElem?_cons_zero,List.getElem?_cons_succ];refine' lY rfl rfl ?_;intro c9 d3 b3;have b4:Hid (af w c9):=ae D.out b3;have d4:=Lib.hid (bv.out.below b3);have d5:=Lib.hid d3;refine⟨b4.out,?_⟩;simp only[yQ,yU,yX,yY];refine ag ?_
    (try simp only[reduceIte,Nat.reduceEqDiff,wpTree,attachW,List.getElem?_cons_zero,List.getElem?_cons_succ])
    refine zZ ?_;refine(lf _).mono ?_;rintro e b5 ⟨rfl,al⟩;have Q:Hid (af w b5):=ae b4.out al;have co:=Lib.hid (d4.out.below al);have cp:=Lib.hid (d5.out.below al);refine⟨_,rfl,Q.out,jO ?_⟩;obtain⟨R,t,G,b,d,f,g⟩:=jc p (.slice (some ⟨_,0,none⟩) (n+1) (n+1)) (.map (some _)) rfl rfl;refine' zV rfl (λW s=>jI rfl rfl rfl rfl rfl R t) ?_;refine' zQ rfl (lA rfl rfl) (ah Q.out _) ?_;refine zU ?_;refine ag ?_;exact⟨b5.heap.size,w.drew.heap.size,a4.heap.size,R,rfl,(SQ.made co.out cp.out o.out q.out b d f g).1,(SQ.made co.out cp.out o.out q.out b d f g).2,ah Q.out _,Q.out.size,x.out.size,D.out.size⟩
  ·simp only[reduceIte,Nat.reduceEqDiff,wpTree,attachW,List.getElem?_cons_zero,List.getElem?_cons_succ];refine' lY rfl rfl ?_;intro b6 ed ef;have T:Hid (af w b6):=ae x.out ef;have cq:=Lib.hid ed;refine⟨T.out,?_⟩;simp only[yQ,yU,yX,yY];refine ag ?_
   (try simp only[reduceIte,Nat.reduceEqDiff,wpTree,attachW,List.getElem?_cons_zero,List.getElem?_cons_succ])
   refine ag ?_;intro k r;simp only[List.mem_cons,List.not_mem_nil,or_false]at r;rcases r with rfl|rfl
   ·simp only[reduceIte,wpTree,attachW,List.getElem?_cons_zero,List.getElem?_cons_succ];refine zZ ?_;refine(lf _).mono ?_;rintro e b7 ⟨rfl,cs⟩;have am:Hid (af w b7):=ae T.out cs;have eh:=Lib.hid (cq.out.below cs);refine⟨_,rfl,am.out,jO ?_⟩;refine ag ?_
    (try simp only[reduceIte,Nat.reduceEqDiff,wpTree,attachW,List.getElem?_cons_zero,List.getElem?_cons_succ])
    refine' lU rfl rfl n hn rfl rfl ?_;intro b8 ei cv;have U:Hid (af w b8):=ae am.out cv;have cx:=Lib.hid (eh.out.below cv);have cN:=Lib.hid ei;refine⟨U.out,?_⟩;simp only[yQ,yU,yX,yY];obtain⟨R,t,G,b,d,f,g⟩:=jc p (.slice (some ⟨_,0,none⟩) (n+1) (n+1)) (.map (some _)) rfl rfl;refine' zV rfl (λW s=>jI rfl rfl rfl rfl rfl R t) ?_;refine' zQ rfl (lA rfl rfl) (ah U.out _) ?_;refine zU ?_;refine ag ?_;exact⟨b8.heap.size,b7.heap.size,w.drew.heap.size,R,rfl,(SQ.made cN.out cx.out o.out q.out b d f g).1,(SQ.made cN.out cx.out o.out q.out b d f g).2,ah U.out _,U.out.size,am.out.size,x.out.size⟩
   ·simp only[reduceIte,Nat.reduceEqDiff,wpTree,attachW,List.getElem?_cons_zero,List.getElem?_cons_succ];refine' lU rfl rfl n hn rfl rfl ?_;intro d6 ek c2;have c3:Hid (af w d6):=ae T.out c2;have el:=Lib.hid (cq.out.below c2);have em:=Lib.hid ek;refine⟨c3.out,?_⟩;simp only[yQ,yU,yX,yY];refine ag ?_
    (try simp only[reduceIte,Nat.reduceEqDiff,wpTree,attachW,List.getElem?_cons_zero,List.getElem?_cons_succ])
    refine zZ ?_;refine(lf _).mono ?_;rintro e b9 ⟨rfl,ap⟩;have V:Hid (af w b9):=ae c3.out ap;have c4:=Lib.hid (em.out.below ap);have c5:=Lib.hid (el.out.below ap);refine⟨_,rfl,V.out,jO ?_⟩;obtain⟨R,t,G,b,d,f,g⟩:=jc p (.slice (some ⟨_,0,none⟩) (n+1) (n+1)) (.map (some _)) rfl rfl;refine' zV rfl (λW s=>jI rfl rfl rfl rfl rfl R t) ?_;refine' zQ rfl (lA rfl rfl) (ah V.out _) ?_;refine zU ?_;refine ag ?_;exact⟨b9.heap.size,b6.heap.size,w.drew.heap.size,R,rfl,(SQ.made c4.out c5.out o.out q.out b d f g).1,(SQ.made c4.out c5.out o.out q.out b d f g).2,ah V.out _,V.out.size,T.out.size,x.out.size⟩
 ·rintro a' W ⟨v,y,hb,R,rfl,z,B,ca,H,E,a7⟩;have a8:=Lib.hid z;have a9:=Lib.hid B;have c6:=Lib.hid ca;have d7:Hid (w.heap.size<=v/\w.heap.size<=y/\w.heap.size<=hb):=⟨H,E,a7⟩;clear z B ca H E a7;generalize((n+1:Nat):Int)=er;go_wp2
  go_loopw [5] (λY wr=>∃(k:Nat) (j:Int) (C:Nat->Nat->Nat) (u:Nat->Nat->Option az),k<=n/\Y= .int .i64 j/\Hid (j=(n:Int)-1-k)/\Hid (SQ wr v y (n+1) hb p C)/\Hid (cO wr hb (5* k) u)/\Hid (Below w.heap.size w wr)/\
   Hid (∀a,n<=a+k->a<n->lX C p a/\∀m,u a m=cG C p a m)/\Hid (∀a m,n<=a->C a m=0)) (λY _=>(intOf Y+1).toNat)
  case atStart=>exact⟨0,_,_,_,Nat.zero_le _,rfl,by show _=_;omega,a8.out,a9.out,c6.out,λa H E=>by omega,λ_ _ _=>rfl⟩
  case round=>
   clear a8 a9 c6;obtain⟨k,j,C,u,r,rfl,bb,z,B,s,hF,Z⟩:=hrel;by_cases es:k<n
   ·obtain⟨i,cb⟩:∃i,i=n-1-k:=⟨_,rfl⟩;obtain rfl:j=(i:Int):=by have:=bb.out;omega
    have J:=Lib.hid cb;have et:i<=4096:=oO;have d8:i<p.size:=by have:=o.out;omega
    clear cb;go_wp2_with(go_at_call 130;refine(EV i wr w.heap.size v y (n+1) hb (5* k) p C u z.out B.out d8 d7.out oO).mono ?_;rintro e en ⟨rfl,C',ce,ch,ci,O⟩;have d9:=Lib.hid ce;have ck:=Lib.hid ch;have ea:=Lib.hid ci;have D:=Lib.hid O;clear ce ch ci O)
    have c7:=ck.out.1;refine⟨⟨k+1,_,C',_,by omega,rfl,by have:=J.out;show _=_;omega,d9.out,ea.out,s.out.trans D.out,?_,?_⟩,by simp[intOf]⟩
    ·show∀a,_;intro a H E;by_cases e:a=i
     ·subst e;exact⟨ck.out.fix,λm=>if_pos rfl⟩
     ·obtain⟨da,dd⟩:=hF.out a (by have:=J.out;omega) E;have hc:∀a' m,a<=a'->C' a' m=C a' m:=λa' m K=>c7 a' m (by have:=J.out;omega);exact⟨da.congr hc,λm=>by rw[if_neg e,dd m,cG.congr hc]⟩
    ·show∀a m,_;intro a m K;rw[c7 a m (by have:=J.out;omega)];exact Z.out a m K
   ·have ec:k=n:=oO;have ew:decide ((0:Int)<=j)=false:=by have:=bb.out;simp;omega
    have de:Hid (SQ wr v y (n+1) hb p C/\cO wr hb (5* n) u/\(∀a,a<n->lX C p a/\∀m,u a m=cG C p a m)/\(∀a m,n<=a->C a m=0)/\Below w.heap.size w wr):=by
     have bd:=B.out;rw[ec]at bd;exact⟨z.out,bd,λa K=>hF.out a oO K,Z.out,s.out⟩
    clear z B s hF Z;go_wp2;go_ret;exact⟨v,y,n+1,hb,C,u,rfl,de.out⟩
end
end Go.Proofs.YtmnlkganmgcpbaaGreatDoor
