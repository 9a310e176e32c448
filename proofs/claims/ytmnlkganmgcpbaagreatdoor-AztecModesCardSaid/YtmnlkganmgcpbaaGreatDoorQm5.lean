import Derived.Test.YtmnlkganmgcpbaaGreatDoorQm4
import Derived.Laws.IdiomStrings
import Derived.Laws.Tables
set_option maxRecDepth 100000
set_option maxHeartbeats 4000000
set_option linter.unusedVariables false
set_option linter.unusedSectionVars false
set_option linter.unusedSimpArgs false
namespace Go.Proofs.YtmnlkganmgcpbaaGreatDoor
section
open Go.RowKit Go.WideMaps Go.Maps
theorem AM {w:World} {b c:Nat} {e:TypeId} {sz:Nat} {v:Value} {k:Nat} {xs:List Value} (h:w.ownsRow b e sz v k xs) (hb:c<=b):w.ownsRow c e sz v k xs:=by
 refine⟨h.1,?_⟩;rcases h.2 with a|⟨g,cap,i,d,a,f⟩
 ·exact .inl a
 ·exact .inr ⟨g,cap,i,d,Nat.le_trans hb a,f⟩
theorem cd {w:World} {a:Nat} {e:TypeId} {sz:Nat} {v:Value} {k:Nat} {xs:List Value} (h:w.ownsRow a e sz v k xs):∃A c,v= .slice A k c:=by
 rcases h.2 with⟨rfl,rfl⟩|⟨g,cap,b,rfl,_⟩
 ·exact⟨_,_,rfl⟩
 ·exact⟨_,_,rfl⟩
def qc (C C':Nat->Nat->Nat) (p:ByteArray) (at_:Nat):Prop:=
 (∀a m,a≠at_->C' a m=C a m)/\(∀m,m<5->∀b∈bI C' p at_ m 32,C' at_ m<=b.bQ C')/\(∀m,m<5->C' at_ m=1073741824\/∃b∈bI C' p at_ m 32,b.bQ C'=C' at_ m)
def lO (C:Nat->Nat->Nat) (p:ByteArray) (at_:Nat):Prop:=
 (∀m,m<5->∀a∈bI C p at_ m 32,C at_ m<=a.bQ C)/\(∀m,m<5->C at_ m=1073741824\/∃a∈bI C p at_ m 32,a.bQ C=C at_ m)
theorem qc.fix {C C':Nat->Nat->Nat} {p:ByteArray} {at_:Nat} (h:qc C C' p at_):lO C' p at_:=h.2
def dq (C:Nat->Nat->Nat) (p:ByteArray) (at_ m:Nat):Option ay:=(bI C p at_ m 32).find? (λa=>a.bQ C==C at_ m)
theorem lO.congr {C C':Nat->Nat->Nat} {p:ByteArray} {at_:Nat} (h:∀a m,at_<=a->C' a m=C a m) (g:lO C p at_):lO C' p at_:=by
 have e:∀m,bI C' p at_ m 32=bI C p at_ m 32:=λm=>nE (λa m k=>h a m oO) 32;have i:∀m,∀b∈bI C p at_ m 32,b.bQ C'=b.bQ C:=λm b c=>by unfold ay.bQ;rw[h _ _ (xu 32 c)]
 refine⟨λm f b c=>?_,λm f=>?_⟩
 ·rw[e m]at c;rw[i m b c,h _ _ (Nat.le_refl _)];exact g.1 m f b c
 ·rw[h _ _ (Nat.le_refl _),e m];rcases g.2 m f with d|⟨b,d,j⟩
  ·exact .inl d
  ·exact .inr ⟨b,d,by rw[i m b d];exact j⟩
theorem find_congr {l:List ay} {q b:ay->Bool} (h:∀a∈l,q a=b a):l.find? q=l.find? b:=by
 induction l with
 |nil=>rfl
 |cons x l c=>
  rw[List.find?_cons,List.find?_cons,h x (List.mem_cons_self ..),c (λa d=>h a (List.mem_cons_of_mem _ d))]
theorem dq.congr {C C':Nat->Nat->Nat} {p:ByteArray} {at_:Nat} (h:∀a m,at_<=a->C' a m=C a m) (m:Nat):dq C' p at_ m=dq C p at_ m:=by
 unfold dq;rw[nE (C:=C') (C':=C) (λa m d=>h a m oO) 32];refine find_congr λc b=>?_;unfold ay.bQ;rw[h _ _ (xu 32 b),h _ _ (Nat.le_refl _)]
theorem FT {L:List ay} {C:Nat->Nat->Nat} {x j:Nat} {b:ay} (h:∀a,a<j->∀b,L[a]?=some b->x<=b.bQ C) (e:L[j]?=some b) (f:x<=b.bQ C):∀a,a<j+1->∀b,L[a]?=some b->x<=b.bQ C:=by
 intro a i g c;rcases Nat.lt_or_ge a j with d|d
 ·exact h a d g c
 ·obtain rfl:a=j:=oO;rw[e]at c;injection c with c;rw[<-c];exact f
theorem D2 {l:List ay} {q:ay->Bool}:∀{j:Nat} {a:ay},(∀b,b<j->∀c,l[b]?=some c->q c=false)->l[j]?=some a->q a=true->l.find? q=some a:=by
 induction l with
 |nil=>intro j a _ h;simp at h
 |cons x l e=>
  intro j a h d hq;cases j with
  |zero=>
   simp only[List.getElem?_cons_zero,Option.some.injEq]at d;subst d;rw[List.find?_cons_of_pos hq]
  |succ j=>
   have f:q x=false:=h 0 (Nat.succ_pos _) x rfl;rw[List.find?_cons_of_neg (by rw[f];simp)];exact e (λb g c i=>h (b+1) (Nat.succ_lt_succ g) c (by simpa using i)) (by simpa using d) hq
theorem G1 {l:List ay} {q:ay->Bool} (h:∀a,a<l.length->∀b,l[a]?=some b->q b=false):l.find? q=none:=by
 rw[List.find?_eq_none];intro d f;obtain⟨j,c,e⟩:=List.getElem_of_mem f;rw[h j c d (by rw[List.getElem?_eq_getElem c,e])];simp
def TT (C:Nat->Nat->Nat) (p:ByteArray) (at_:Nat) (b:Nat->Nat->Option ay) (i:Nat):Nat->Nat->Option ay:=λa m=>if a=at_ then(if m<i then dq C p at_ m else none)else b a m
theorem TT.zero {C:Nat->Nat->Nat} {p:ByteArray} {at_:Nat} {b:Nat->Nat->Option ay} {a m:Nat} {c:ay} (h:TT C p at_ b 0 a m=some c):b a m=some c:=by
 unfold TT at h;by_cases e:a=at_
 ·rw[if_pos e,if_neg oO]at h;cases h
 ·rwa[if_neg e]at h
theorem TT.none_ {C:Nat->Nat->Nat} {p:ByteArray} {at_ i:Nat} {b:Nat->Nat->Option ay} (hn:dq C p at_ i=none) {a m:Nat} {c:ay} (h:TT C p at_ b (i+1) a m=some c):TT C p at_ b i a m=some c:=by
 unfold TT at h⊢;by_cases e:a=at_
 ·rw[if_pos e]at h⊢;by_cases e2:m<i
  ·rw[if_pos oO]at h;rw[if_pos e2];exact h
  ·by_cases e3:m<i+1
   ·rw[if_pos e3]at h;obtain rfl:m=i:=oO;rw[hn]at h;cases h
   ·rw[if_neg e3]at h;cases h
 ·rw[if_neg e]at h⊢;exact h
theorem TT.some_ {C:Nat->Nat->Nat} {p:ByteArray} {at_ i:Nat} {c:Nat->Nat->Option ay} {x:ay} (hn:dq C p at_ i=some x) {a m:Nat} {d:ay} (h:TT C p at_ c (i+1) a m=some d):uI (TT C p at_ c i) at_ i x a m=some d:=by
 unfold uI;by_cases b:a=at_/\m=i
 ·rw[if_pos b];unfold TT at h;rw[if_pos b.1,if_pos oO,b.2,hn]at h;exact h
 ·rw[if_neg b];unfold TT at h⊢;by_cases e:a=at_
  ·rw[if_pos e]at h⊢;by_cases e2:m<i
   ·rw[if_pos oO]at h;rw[if_pos e2];exact h
   ·rw[if_neg oO]at h;cases h
  ·rw[if_neg e]at h⊢;exact h
theorem QS.uj {w wr:World} {n e base f g cap hb:Nat} {p:ByteArray} {C:Nat->Nat->Nat} {i:List Value} {L:Nat->List ay} {b k l:Nat} {c j:Nat->Nat->Option ay} (h:QS w wr n e base f g cap hb p C i L b k c)
 (hc:k<=l) (o:∀a m d,a<=4096->m<5->j a m=some d->c a m=some d):QS w wr n e base f g cap hb p C i L b l j:=
 ⟨h.B,h.S,h.A,h.F,h.V,h.M.uj hc o,h.l5,h.n1,h.n2,h.n3,h.n4⟩
theorem B8 {c:Array Oper} {S:World->Prop} {K:Act->World->Prop} {r:List (Bool×Nat×Oper)} {k:Nat} {b:Oper} {a:Act} {W:World} {hb d:Nat} {e:Nat->Nat->Option ay} (h:cW W hb d e)
 (u:Region.wanted b (yielded c a.tmps)=true) (m x v:Operand) (f:b.op= .mapUpdate 173 m x v) (g:a.eval m= .map (some hb)) (at_ i:Nat) (j:a.eval x= .agg #[.int .i64 (at_:Int),.int .i64 (i:Int)]) (y:ay) (l:a.eval v=y.val)
 (n:at_<=4096) (o:i<5) (hc:d<maxLen)
 (p:∀w',cW w' hb (d+1) (uI e at_ i y)->W.grownBy w' (some hb)->S w'/\bC Tryz.prog c S K r (a.put b.dst undef) w'):bC Tryz.prog c S K ((true,k,b)::r) a W:=by
 obtain⟨w',w,q,s⟩:=h.put at_ i y n o hc;have t:=p w' q s;refine .inl ⟨u,?_⟩;unfold execOp;simp only[f,g,j,l,w,Sem.run_bind,Sem.run_pure,Result.andThen_ok];exact t
theorem Eg (at_:Nat) (w:World) (n o l cap hb D:Nat) (p:ByteArray) (C:Nat->Nat->Nat) (E:Nat->Nat->Option ay) (al:SQ w o l cap hb p C) (cg:cW w hb D E) (ch:at_<p.size) (hn:n<=o/\n<=l/\n<=hb) (f7:D<=30000):
 Calls Tryz.prog 130 #[.pointer (some ⟨o,0,none⟩),.int .i64 (at_:Int)] w
  λe w'=>e= .returned (.tuple #[])/\∃C',SQ w' o l cap hb p C'/\qc C C' p at_/\cW w' hb (D+5) (λa m=>if a=at_ then dq C' p at_ m else E a m)/\Below n w w':=by
 have ed:=al.S.hp;have f2:at_<=4096:=oO;have f3:(at_:Int)<(p.size:Int)+1:=oO;have f8:=al.S.hc;obtain⟨L,ds⟩:∃L:Nat->List ay,L=λm=>bI C p at_ m 32:=⟨_,rfl⟩;have b1:=Lib.hid ds;have cv:Hid (∀C',(∀a m,a≠at_->C' a m=C a m)->∀m,bI C' p at_ m 32=L m):=by
  show∀C',_;intro C' h m;rw[b1.out];exact nE (λa m ch=>h a m oO) 32
 have d5:Hid (∀m,m<5->∀b∈L m,okO p b):=by
  show∀m,_;intro m N b s;rw[b1.out]at s;exact pN ch ed N 32 s
 have cx:Hid (QS w (w.alloc (.cells #[.slice none 0 0,.slice none 0 0,.slice none 0 0,.slice none 0 0,.slice none 0 0] 219)) n w.heap.size (w.heap.size+1) o l cap hb p C [.slice none 0 0,.slice none 0 0,.slice none 0 0,.slice none 0 0,.slice none 0 0] L 0 D E):=
  ⟨(ax _ _).mono (by have:=al.S.lt;omega),al.below (ax _ _),an.new _ #[.slice none 0 0,.slice none 0 0,.slice none 0 0,.slice none 0 0,.slice none 0 0] _ _ rfl,FZ.new _ _ _ _ _ rfl,λi dv=>by omega,cg.below (ax _ _),rfl,hn,⟨al.S.lt,al.S.cl,cg.lt⟩,by omega,by simp⟩
 clear al cg ds hn;go_enter Tryz.func130,Tryz.ntmps130;go_wp2_with((with_reducible show wpList _ _ _ (⟨_,Op.alloc 219,_,_,_,_⟩::_) _ _);refine aX rfl 219 rfl _ IN ?_)
 generalize w.alloc (.cells #[.slice none 0 0,.slice none 0 0,.slice none 0 0,.slice none 0 0,.slice none 0 0] 219)=fx at*;obtain⟨B,b5⟩:∃B,B=w.heap.size:=⟨_,rfl⟩;obtain⟨base,dl⟩:∃base,base=w.heap.size+1:=⟨_,rfl⟩;rw[<-dl,<-b5]at cx;rw[<-b5];have f4:=Lib.hid dl;have f5:=Lib.hid b5;clear b5 dl;go_loopw [16] (λF wr=>∃(r:Nat) (C':Nat->Nat->Nat) (t:List Value),r<=5/\F= .int .i64 r/\Hid (QS w wr n B base o l cap hb p C' t L r D E)/\Hid (∀a m,a≠at_->C' a m=C a m)/\Hid (∀m,m<r->C' at_ m=1073741824)) (λF _=>5-(intOf F).toNat)
 case atStart=>exact⟨0,C,_,by omega,rfl,cx.out,λ_ _ _=>rfl,λm N=>by omega⟩
 case round=>
  clear cx;obtain⟨r,am,t,ef,rfl,f,H,b2⟩:=hrel;by_cases z:r<5
  ·have c1:=f.out.S.S.cc;have fz:=f.out.S.S.cz at_ r oO z;have f0:=f.out.S.F.2 (at_* 5+r) oO;have f6:(r:Int)<5:=oO;have cy:Hid (QS w (wr.setCell ⟨l,at_* 5+r,none⟩ (.int .i64 1073741824)) n B base o l cap hb p (mi am at_ r 1073741824) t L r D E):=f.out.cost at_ r 1073741824 oO z (Nat.le_refl _);have ec:Hid (∀a m,a≠at_->mi am at_ r 1073741824 a m=C a m):=by
    show∀a m,_;intro a m h;rw[kG _ _ _ _ _ _ (λe=>h e.1)];exact H.out a m h
   have ex:Hid (∀m,m<r+1->mi am at_ r 1073741824 at_ m=1073741824):=by
    show∀m,_;intro m N;by_cases e:m=r
    ·subst e;exact mY _ _ _ _
    ·rw[kG _ _ _ _ _ _ (λh=>e h.2)];exact b2.out m oO
   clear f H b2;generalize mi am at_ r 1073741824=d at*;go_wp2_with(go_at_call 179;refine(B7 at_ r _ o l cap hb p d cy.out.S.S ch z).mono ?_;rintro e O ⟨v,rfl,s⟩;obtain⟨dx,dy,rfl⟩:=cd s.O;have b6:=Lib.hid (cy.out.below s.B);have ey:=Lib.hid s.O;have d0:=b6.out.F.2 r z;have b3:=b6.out.A.2 r (by rw[b6.out.l5];exact z);generalize t.getD r undef=f1 at*;clear s)
   have ez:Hid (QS w (O.setCell ⟨B,r,none⟩ (.slice dx (bI d p at_ r 32).length dy)) n B base o l cap hb p d (t.set r (.slice dx (bI d p at_ r 32).length dy)) L (r+1) D E):=by
    refine b6.out.slot _ z ?_;have M:=AM ey.out cy.out.n4;have eh:=cv.out d ec.out r;rw[<-eh];exact M
   exact⟨⟨r+1,d,_,by omega,by go_num,ez.out,ec.out,ex.out⟩,by simp[intOf];omega⟩
  ·have bf:r=5:=oO;have d1:Hid (QS w wr n B base o l cap hb p am t L 5 D E):=by rw[<-bf];exact f.out
   have d6:Hid (sA am L at_):=by
    show sA _ _ _;intro m N;exact .inl (b2.out m oO)
   clear f b2;go_wp2;clear z ef bf;go_loopw [6] (λap wr=>∃(x:Bool) (C':Nat->Nat->Nat),ap= .bool x/\Hid (QS w wr n B base o l cap hb p C' t L 5 D E)/\Hid (∀a m,a≠at_->C' a m=C a m)/\Hid (sA C' L at_)/\Hid (x=false->∀m,m<5->∀b∈L m,C' at_ m<=b.bQ C')) (λap wr=>2* uL wr l at_+vY ap)
   case atStart=>exact⟨true,am,rfl,d1.out,H.out,d6.out,λh=>by cases h⟩
   case round=>
    clear d1 d6 H;obtain⟨x,d,rfl,f,H,Q,b7⟩:=hrel;cases x with
    |true=>
     clear b7;have ea:Hid (uL wr l at_=pq d at_):=f.out.S.S.sum at_ oO;obtain⟨a7,c2⟩:∃a7,a7=pq d at_:=⟨_,rfl⟩;rw[<-c2]at ea;have d7:=Lib.hid c2;clear c2;go_wp2_with((with_reducible show wpList _ _ _ (⟨_,Op.load 219 _,_,_,_,_⟩::_) _ _);refine bD rfl 219 _ rfl _ Tryz.underlying219 rfl ⟨B,0,none⟩ t (by rw[f.out.l5];exact Fi) rfl (gH f.out.A) ?_)
     obtain⟨a8,rfl⟩:∃a8:World,a8=wr:=⟨_,rfl⟩;go_loopw [6,37] (λap F wr=>∃(i:Nat) (x:Bool) (C':Nat->Nat->Nat),i<=5/\F= .int .i64 i/\ap= .bool x/\Hid (QS w wr n B base o l cap hb p C' t L 5 D E)/\Hid (∀a m,a≠at_->C' a m=C a m)/\Hid (sA C' L at_)/\Hid (x=false->C'=d/\∀m,m<i->∀b∈L m,C' at_ m<=b.bQ C')/\Hid (x=true->pq C' at_<a7)) (λ_ F _=>5-(intOf F).toNat)
     case atStart=>exact⟨0,false,d,by omega,rfl,rfl,f.out,H.out,Q.out,λ_=>⟨rfl,λm N=>by omega⟩,λh=>by cases h⟩
     case round=>
      clear f H Q;obtain⟨i,x,b4,dv,rfl,rfl,f,H,Q,hF,ab⟩:=hrel;by_cases z:i<5
      ·obtain⟨A,c,a4,ce⟩:=f.out.row i z;have bv:t.toArray[i]?=some (.slice A (L i).length c):=by simpa using a4
       have c8:=Lib.hid a4;obtain⟨len,Z⟩:∃len,len=(L i).length:=⟨_,rfl⟩;have a5:=Lib.hid Z;have fv:len<=1024:=by rw[Z,b1.out];exact qD C p at_ i 32
       rw[<-Z]at bv;have fw:Hid (∀j,j<len->∃g,A=some ⟨g,0,none⟩/\∀b,(L i)[j]?=some b->∀k u,b.aC[k]?=some u->wr.cell? ⟨g,j* 7+k,none⟩=some u):=by
        show∀j,_;intro j ci;obtain⟨g,e,h⟩:=ce j (by rw[<-Z];exact ci);exact⟨g,e,h wr (Below.refl _ _)⟩
       clear ce a4 Z fw;go_wp2_with((with_reducible show wpList _ _ _ (⟨_,Op.index 219 _ _,_,_,_,_⟩::_) _ _);refine iH rfl 219 _ _ rfl 5 218 Tryz.underlying219 _ Tryz.underlying218 rfl BN t.toArray .i64 i i rfl rfl rfl z _ bv ?_)
       go_loopw [6,43] (λap F wr=>∃(j:Nat) (x:Bool) (C':Nat->Nat->Nat),j<=len/\F= .int .i64 j/\ap= .bool x/\Hid (QS w wr n B base o l cap hb p C' t L 5 D E)/\Hid (∀a m,a≠at_->C' a m=C a m)/\Hid (sA C' L at_)/\Hid (x=false->C'=d/\(∀m,m<i->∀b∈L m,C' at_ m<=b.bQ C')/\∀G,G<j->∀b,(L i)[G]?=some b->C' at_ i<=b.bQ C')/\Hid (x=true->pq C' at_<a7)) (λ_ F _=>len-(intOf F).toNat)
       case atStart=>exact⟨0,x,b4,Nat.zero_le _,rfl,rfl,f.out,H.out,Q.out,λh=>⟨(hF.out h).1,(hF.out h).2,λG el=>by omega⟩,ab.out⟩
       case round=>
        clear f H Q hF ab;obtain⟨j,x,J,ci,rfl,rfl,f,H,Q,hF,ab⟩:=hrel;by_cases bt:j<len
        ·obtain⟨ck,co,a6,bz⟩:=f.out.row i z;rw[c8.out]at a6
         obtain⟨rfl,rfl⟩:A=ck/\c=co:=by
          have M:=Option.some.inj a6;injection M with cp em cq;exact⟨cp,cq⟩
         obtain⟨g,rfl,bx⟩:=bz j (by rw[<-a5.out];exact bt);obtain⟨b,s⟩:∃b,(L i)[j]?=some b:=⟨_,List.getElem?_eq_getElem (by rw[<-a5.out];exact bt)⟩;have d2:=Lib.hid s;have be:b∈L i:=List.mem_of_getElem? s;have P:Hid (okO p b):=d5.out i z b be;have en:=Lib.hid be;have b8:Hid (∀k u,b.aC[k]?=some u->wr.cell? ((⟨g,j* 7,none⟩:Addr).add k)=some u):=by
          show∀k,_;intro k u cr;rw[add_plain];exact bx wr (Below.refl _ _) b s k u cr
         have bi:Hid (∀W,af wr W->QS w W n B base o l cap hb p J t L 5 D E):=λW S=>f.out.below S;clear a6 bz s be bx f;obtain⟨T,bo⟩:∃T,T=b.bQ J:=⟨_,rfl⟩;obtain⟨U,av⟩:∃U,U=J at_ i:=⟨_,rfl⟩;have V:=Lib.hid bo;have a0:=Lib.hid av;have e0:Hid (U<=1073741824):=by show _<=_;rw[av];exact(bi.out wr (Below.refl _ _)).S.S.b _ _
         have e9:(i:Int)<5:=oO;have fr:Hid (pq J at_<=a7):=by
          show _<=_;cases x with
          |true=>exact Nat.le_of_lt (ab.out rfl)
          |false=>rw[(hF.out rfl).1,<-d7.out];exact Nat.le_refl _
         clear bo av;by_cases a9:T<U
         ·clear hF ab
          go_wp2_with(first
           |((with_reducible show wpList _ _ _ (⟨_,Op.load 181 _,_,_,_,_⟩::_) _ _);first|refine bD rfl 181 _ rfl _ Tryz.underlying181 rfl ⟨g,j* 7,none⟩ b.aC fD rfl b8.out ?_|refine bD rfl 181 _ rfl _ Tryz.underlying181 rfl ⟨wr.heap.size,0,none⟩ b.aC fD rfl (nK _ b _ _ rfl) ?_)
           |((with_reducible show wpList _ _ _ (⟨_,Op.alloc 181,_,_,_,_⟩::_) _ _);refine aX rfl 181 rfl _ mh ?_)
           |((with_reducible show wpList _ _ _ (⟨_,Op.store 181 _ _,_,_,_,_⟩::_) _ _);refine bm rfl 181 _ _ rfl 181 _ b.aC rfl rfl fD rfl b.one ?_)
           |(go_at_call 180;refine(kZ b _ o l cap hb p J (bi.out _ (ax _ _)).S.S P.out.1 P.out.2.1 P.out.2.2.1).mono ?_;rintro e O ⟨rfl,Y⟩;have K:=Lib.hid (bi.out O ((ax _ _).trans (Y.mono oS)));have d0:=K.out.S.S.cc;have b3:=K.out.S.S.cz at_ i oO z;have eq:=K.out.S.F.2 (at_* 5+i) oO;rw[<-a0.out]at b3;rw[<-V.out];clear Y))
          have b9:b.bQ J<J at_ i:=by rw[<-V.out,<-a0.out];exact a9
          refine⟨⟨j+1,true,mi J at_ i T,by omega,by go_num,rfl,K.out.cost at_ i T oO z (by have:=e0.out;omega),?_,?_,λh=>(by cases h),λ_=>?_⟩,by simp[intOf];omega⟩
          ·show∀a m,_;intro a m h;rw[kG _ _ _ _ _ _ (λe=>h e.1)];exact H.out a m h
          ·have:=Q.out.MP en.out b9;rw[<-V.out]at this;exact this
          ·have M:=Jg (C:=J) (a:=at_) z b9;rw[<-V.out]at M;exact Nat.lt_of_lt_of_le M fr.out
         ·go_wp2_with(first
           |((with_reducible show wpList _ _ _ (⟨_,Op.load 181 _,_,_,_,_⟩::_) _ _);first|refine bD rfl 181 _ rfl _ Tryz.underlying181 rfl ⟨g,j* 7,none⟩ b.aC fD rfl b8.out ?_|refine bD rfl 181 _ rfl _ Tryz.underlying181 rfl ⟨wr.heap.size,0,none⟩ b.aC fD rfl (nK _ b _ _ rfl) ?_)
           |((with_reducible show wpList _ _ _ (⟨_,Op.alloc 181,_,_,_,_⟩::_) _ _);refine aX rfl 181 rfl _ mh ?_)
           |((with_reducible show wpList _ _ _ (⟨_,Op.store 181 _ _,_,_,_,_⟩::_) _ _);refine bm rfl 181 _ _ rfl 181 _ b.aC rfl rfl fD rfl b.one ?_)
           |(go_at_call 180;refine(kZ b _ o l cap hb p J (bi.out _ (ax _ _)).S.S P.out.1 P.out.2.1 P.out.2.2.1).mono ?_;rintro e O ⟨rfl,Y⟩;have K:=Lib.hid (bi.out O ((ax _ _).trans (Y.mono oS)));have d0:=K.out.S.S.cc;have b3:=K.out.S.S.cz at_ i oO z;have eq:=K.out.S.F.2 (at_* 5+i) oO;rw[<-a0.out]at b3;rw[<-V.out];clear Y))
          have b9:J at_ i<=b.bQ J:=by rw[<-V.out,<-a0.out];omega
          exact⟨⟨j+1,x,J,by omega,by go_num,rfl,K.out,H.out,Q.out,λh=>⟨(hF.out h).1,(hF.out h).2.1,FT (hF.out h).2.2 d2.out b9⟩,ab.out⟩,by simp[intOf];omega⟩
        ·have ca:j=len:=oO;have fb:Hid (x=false->J=d/\∀m,m<i+1->∀b∈L m,J at_ m<=b.bQ J):=by
          show _->_;intro h;obtain⟨ac,cs,er⟩:=hF.out h;refine⟨ac,λm N b s=>?_⟩;rcases Nat.lt_or_ge m i with d3|d3
          ·exact cs m d3 b s
          ·obtain rfl:m=i:=oO;obtain⟨G,bq,e⟩:=List.getElem_of_mem s;exact er G (by rw[ca,a5.out];exact bq) b (by rw[List.getElem?_eq_getElem bq,e])
         clear hF;subst ca;go_wp2;exact⟨⟨i+1,x,J,by omega,by go_num,rfl,f.out,H.out,Q.out,fb.out,ab.out⟩,by simp[intOf];omega⟩
      ·have bf:i=5:=oO;have fc:Hid (x=false->∀m,m<5->∀b∈L m,b4 at_ m<=b.bQ b4):=λh m N=>(hF.out h).2 m oO;have fd:Hid (2* uL wr l at_+vY (.bool x)<2* a7+1):=by
        show _<_;rw[f.out.S.S.sum at_ oO];cases x with
        |true=>have:=ab.out rfl;show 2* _+1<_;omega
        |false=>rw[(hF.out rfl).1,<-d7.out];show 2* _+0<_;omega
       clear hF ab;go_wp2;refine⟨⟨x,b4,rfl,f.out,H.out,Q.out,fc.out⟩,?_⟩;show 2* uL wr l at_+vY (.bool x)<2* uL a8 l at_+vY (.bool true);rw[ea.out];exact fd.out
    |false=>
     have bb:Hid (∀m,bI d p at_ m 32=L m):=cv.out d H.out;have d8:Hid (qc C d p at_):=by
      refine⟨H.out,λm N b s=>b7.out rfl m N b (by rw[bb.out m]at s;exact s),λm N=>?_⟩;rcases Q.out m N with ac|⟨b,ac,cs⟩
      ·exact .inl ac
      ·exact .inr ⟨b,by rw[bb.out m];exact ac,Nat.le_antisymm cs (b7.out rfl m N b ac)⟩
     have cb:Hid (QS w wr n B base o l cap hb p d t L 5 (D+0) (TT d p at_ E 0)):=f.out.uj oO (λa m b _ _ h=>TT.zero h);clear b7 f H Q cv b1;go_wp2_with((with_reducible show wpList _ _ _ (⟨_,Op.load 219 _,_,_,_,_⟩::_) _ _);refine bD rfl 219 _ rfl _ Tryz.underlying219 rfl ⟨B,0,none⟩ t (by rw[cb.out.l5];exact Fi) rfl (gH cb.out.A) ?_)
     go_loopw [73] (λF wr=>∃(i:Nat),i<=5/\F= .int .i64 i/\Hid (QS w wr n B base o l cap hb p d t L 5 (D+i) (TT d p at_ E i))) (λF _=>5-(intOf F).toNat)
     case atStart=>exact⟨0,by omega,rfl,cb.out⟩
     case round=>
      clear cb;obtain⟨i,dv,rfl,f⟩:=hrel;by_cases z:i<5
      ·obtain⟨A,c,a4,ce⟩:=f.out.row i z;have bv:t.toArray[i]?=some (.slice A (L i).length c):=by simpa using a4
       have c8:=Lib.hid a4;obtain⟨len,Z⟩:∃len,len=(L i).length:=⟨_,rfl⟩;have a5:=Lib.hid Z;have fv:len<=1024:=by rw[Z,<-bb.out i];exact qD d p at_ i 32
       rw[<-Z]at bv;clear ce a4 Z;go_wp2_with((with_reducible show wpList _ _ _ (⟨_,Op.index 219 _ _,_,_,_,_⟩::_) _ _);refine iH rfl 219 _ _ rfl 5 218 Tryz.underlying219 _ Tryz.underlying218 rfl BN t.toArray .i64 i i rfl rfl rfl z _ bv ?_)
       obtain⟨a8,rfl⟩:∃a8:World,a8=wr:=⟨_,rfl⟩;go_loopw [79] (λF wr=>∃(j:Nat),j<=len/\F= .int .i64 j/\Hid (QS w wr n B base o l cap hb p d t L 5 (D+i) (TT d p at_ E i))/\Hid (∀G,G<j->∀b,(L i)[G]?=some b->(b.bQ d==d at_ i)=false)) (λF _=>len-(intOf F).toNat)
       case atStart=>exact⟨0,Nat.zero_le _,rfl,f.out,λG el=>by omega⟩
       case round=>
        clear f;obtain⟨j,ci,rfl,f,hF⟩:=hrel;by_cases bt:j<len
        ·obtain⟨ck,co,a6,bz⟩:=f.out.row i z;rw[c8.out]at a6
         obtain⟨rfl,rfl⟩:A=ck/\c=co:=by
          have M:=Option.some.inj a6;injection M with cp em cq;exact⟨cp,cq⟩
         obtain⟨g,rfl,bx⟩:=bz j (by rw[<-a5.out];exact bt);obtain⟨b,s⟩:∃b,(L i)[j]?=some b:=⟨_,List.getElem?_eq_getElem (by rw[<-a5.out];exact bt)⟩;have d2:=Lib.hid s;have be:b∈L i:=List.mem_of_getElem? s;have P:Hid (okO p b):=d5.out i z b be;have b8:Hid (∀k u,b.aC[k]?=some u->wr.cell? ((⟨g,j* 7,none⟩:Addr).add k)=some u):=by
          show∀k,_;intro k u cr;rw[add_plain];exact bx wr (Below.refl _ _) b s k u cr
         have c9:Hid ((b.bQ d==d at_ i)=true->dq d p at_ i=some b):=by
          show _->_;intro h;unfold dq;rw[bb.out i];exact D2 hF.out s h
         have di:Hid ((b.bQ d==d at_ i)=false->∀G,G<j+1->∀b,(L i)[G]?=some b->(b.bQ d==d at_ i)=false):=by
          show _->_;intro h G bq es c3;rcases Nat.lt_or_ge G j with ac|ac
          ·exact hF.out G ac es c3
          ·obtain rfl:G=j:=oO;rw[s]at c3;rw[<-Option.some.inj c3];exact h
         clear a6 bz s be bx hF;have a1:Hid (QS w (wr.alloc (.cells b.aC.toArray 181)) n B base o l cap hb p d t L 5 (D+i) (TT d p at_ E i)):=f.out.below (ax _ _);have bd:Hid (an (wr.alloc (.cells b.aC.toArray 181)) wr.heap.size b.aC):=an.new _ b.aC.toArray _ _ rfl;have fn:Hid (hb≠wr.heap.size):=by show _≠_;have:=f.out.M.lt;omega
         clear f
         go_wp2_with(first
          |((with_reducible show wpList _ _ _ (⟨_,Op.load 181 _,_,_,_,_⟩::_) _ _);refine bD rfl 181 _ rfl _ Tryz.underlying181 rfl ⟨g,j* 7,none⟩ b.aC fD rfl b8.out ?_)
          |((with_reducible show wpList _ _ _ (⟨_,Op.alloc 181,_,_,_,_⟩::_) _ _);refine aX rfl 181 rfl _ mh ?_)
          |((with_reducible show wpList _ _ _ (⟨_,Op.store 181 _ _,_,_,_,_⟩::_) _ _);refine bm rfl 181 _ _ rfl 181 _ b.aC rfl rfl fD rfl b.one ?_))
         generalize wr.alloc (.cells b.aC.toArray 181)=X at*;generalize wr.heap.size=a2 at*;obtain⟨U,av⟩:∃U,U=d at_ i:=⟨_,rfl⟩;have a0:=Lib.hid av;have e9:(i:Int)<5:=oO;have y:Hid (∀W,af X W->W.cell? ⟨o,481,none⟩=some (.slice (some ⟨l,0,none⟩) (p.size+1) cap)/\W.cell? ⟨l,at_* 5+i,none⟩=some (.int .i64 (U:Int))):=by
          show∀W,_;intro W S;have M:=(a1.out.below S).S.S;exact⟨M.cc,by rw[av];exact M.cz at_ i oO z⟩
         clear av;obtain⟨T,bo⟩:∃T,T=b.bQ d:=⟨_,rfl⟩;have V:=Lib.hid bo;clear bo;by_cases a9:T=U
         ·have c4:=Lib.hid (c9.out (by rw[<-V.out,<-a0.out,a9];simp));have et:((T:Int)==(U:Int))=true:=by rw[beq_iff_eq];omega
          clear c9 di a9;refine yO (af X) [1,2,4,5,6,7,8,9,10,11,12,0,3,0,13] (ai (Below.refl _ _)) ?_;refine zO y.out ?_;refine' zV rfl (λW S=>jY 181 _ Tryz.underlying181 rfl rfl a2 b.aC fD rfl (bd.out.below S)) ?_;refine zO y.out ?_;refine zO y.out ?_;refine zO y.out ?_;refine zO y.out ?_;refine zO y.out ?_;refine zO y.out ?_;refine zO y.out ?_;refine zO y.out ?_;refine zO y.out ?_;refine zZ ?_;refine(kZ b _ o l cap hb p d (a1.out.below (ai (Below.refl _ _))).S.S P.out.1 P.out.2.1 P.out.2.2.1).mono ?_;rintro e O ⟨rfl,Y⟩;rw[<-V.out];have ad:Hid (af X O):=(ai (Below.refl _ _)).trans Y;clear Y;refine⟨_,rfl,ad.out,jO ?_⟩;refine zO y.out ?_;refine ag ?_;have K:Hid (QS w O n B base o l cap hb p d t L 5 (D+i) (TT d p at_ E i)):=a1.out.below ad.out;have bs:Hid (an O a2 b.aC):=bd.out.below ad.out;clear a1 bd y ad;go_wp2;have a3:Hid (∀W,(W.cell? ⟨o,482,none⟩=some (.map (some hb))/\an W a2 b.aC)->W.cell? ⟨o,482,none⟩=some (.map (some hb))):=λW S=>S.1;refine yO (λW=>W.cell? ⟨o,482,none⟩=some (.map (some hb))/\an W a2 b.aC) [1,2,3,4,5,6,8,0,7,9] ⟨K.out.S.S.cm,bs.out.drew⟩ ?_;refine zO a3.out ?_;refine zO a3.out ?_;refine zO a3.out ?_;refine zO a3.out ?_;refine zO a3.out ?_;refine zO a3.out ?_;refine' zV rfl (λW S=>jY 181 _ Tryz.underlying181 rfl rfl a2 b.aC fD rfl S.2) ?_;refine' zQ (v:= .agg #[.int .i64 (at_:Int),.int .i64 (i:Int)]) (w':=O.drew) rfl (by go_simp) ⟨K.out.S.S.cm,bs.out.drew⟩ ?_;refine' B8 (K.out.below (ai (Below.refl _ _))).M rfl _ _ _ rfl rfl at_ i rfl b rfl oO z oM ?_;intro d4 d9 c5;have c6:Hid (QS w d4 n B base o l cap hb p d t L 5 (D+i+1) (uI (TT d p at_ E i) at_ i b)):=(K.out.below (ai (Below.refl _ _))).put c5 d9;refine⟨⟨c6.out.S.S.cm,bs.out.drew.grown c5 (λq hq=>by injection hq with hq;rw[<-hq];exact fn.out)⟩,?_⟩;have c7:Hid (QS w d4 n B base o l cap hb p d t L 5 (D+(i+1)) (TT d p at_ E (i+1))):=c6.out.uj oO (λa m b _ _ h=>TT.some_ c4.out h);clear K bs c6 a3 d9 c5;simp only[Act.put];refine ag ?_;go_wp2;exact⟨⟨i+1,by omega,by go_num,c7.out⟩,by simp[intOf];omega⟩
         ·have c4:=Lib.hid (di.out (by rw[<-V.out,<-a0.out,beq_eq_false_iff_ne];exact a9));have et:((T:Int)==(U:Int))=false:=by rw[beq_eq_false_iff_ne];omega
          clear c9 di a9;refine yO (af X) [1,2,4,5,6,7,8,9,10,11,12,0,3,0,13] (ai (Below.refl _ _)) ?_;refine zO y.out ?_;refine' zV rfl (λW S=>jY 181 _ Tryz.underlying181 rfl rfl a2 b.aC fD rfl (bd.out.below S)) ?_;refine zO y.out ?_;refine zO y.out ?_;refine zO y.out ?_;refine zO y.out ?_;refine zO y.out ?_;refine zO y.out ?_;refine zO y.out ?_;refine zO y.out ?_;refine zO y.out ?_;refine zZ ?_;refine(kZ b _ o l cap hb p d (a1.out.below (ai (Below.refl _ _))).S.S P.out.1 P.out.2.1 P.out.2.2.1).mono ?_;rintro e O ⟨rfl,Y⟩;rw[<-V.out];have ad:Hid (af X O):=(ai (Below.refl _ _)).trans Y;clear Y;refine⟨_,rfl,ad.out,jO ?_⟩;refine zO y.out ?_;refine ag ?_;have K:Hid (QS w O n B base o l cap hb p d t L 5 (D+i) (TT d p at_ E i)):=a1.out.below ad.out;have bs:Hid (an O a2 b.aC):=bd.out.below ad.out;clear a1 bd y ad;go_wp2;exact⟨⟨j+1,by omega,by go_num,K.out,c4.out⟩,by simp[intOf];omega⟩
        ·have ca:j=len:=oO;have fo:Hid (dq d p at_ i=none):=by
          show _=_;unfold dq;rw[bb.out i];exact G1 (λG bq=>hF.out G (by rw[ca,a5.out];exact bq))
         have c7:Hid (QS w wr n B base o l cap hb p d t L 5 (D+(i+1)) (TT d p at_ E (i+1))):=f.out.uj oO (λa m b _ _ h=>TT.none_ fo.out h);clear f hF;go_wp2;exact⟨⟨i+1,by omega,by go_num,c7.out⟩,by simp[intOf];omega⟩
      ·have bf:i=5:=oO;have ew:Hid (SQ wr o l cap hb p d/\qc C d p at_/\cW wr hb (D+5) (λa m=>if a=at_ then dq d p at_ m else E a m)/\Below n w wr):=by
        have M:=f.out;rw[bf]at M;refine⟨M.S,d8.out,M.M.uj (Nat.le_refl _) (λa m b _ N h=>?_),M.B⟩;unfold TT;by_cases e:a=at_
        ·rw[if_pos e]at h⊢;rw[if_pos N];exact h
        ·rw[if_neg e]at h⊢;exact h
       clear f d8 bb;go_wp2;refine bodyPost_end (results_none rfl _ _ _) rfl ?_;exact⟨rfl,d,ew.out⟩
end
section
open Go.RowKit
section
variable {P : Program} {ops : Array Oper} {md : Region.Mode} {S : World → Prop}
def pZ:List (Bool×Nat)->Array Bool->Array Bool
 |[],L=>L
 |(_,k)::r,L=>pZ r (L.setIfInBounds k true)
def preOB (md:Region.Mode) (ops:Array Oper):List (Bool×Nat)->Array Bool->Bool
 |[],_=>true
 |(true,k)::r,L=>decide (Region.ready md ops L=[k])&&preOB md ops r (L.setIfInBounds k true)
 |(false,k)::r,L=>(Region.ready md ops L).contains k&&Region.free md ops L k&&preOB md ops r (L.setIfInBounds k true)
theorem nA {K K':Act->World->Prop} (d:Region.noSelect ops=true) (n:Nat):∀(l:List (Bool×Nat)) (L:Array Bool) (a:Act) (w:World),S w->preOB md ops l L=true->
 (∀a w,S w->K' a w->ku P md ops S K n (pZ l L) a w)->wW P ops S K' l a w->ku P md ops S K (n+l.length) L a w
 |[],L,a,w,b,_,c,h=>c a w b h
 |(true,k)::r,L,a,w,b,hB,c,h=>by
  simp only[preOB,Bool.and_eq_true,decide_eq_true_eq]at hB;exact r7 hB.1 (um (λa' w' j f=>nA d n r _ a' w' j hB.2 c f) h)
 |(false,k)::r,L,a,w,b,hB,c,h=>by
  simp only[preOB,Bool.and_eq_true]at hB;obtain⟨m,e,v,g,i⟩:=h;exact sc e (Region.noSelect_spec d) (n+r.length) L a w b (Region.free_spec e hB.1.2) (by simpa using hB.1.1) g (nA d n r _ _ w b hB.2 c i)
theorem lK {l:List Oper} {K:Act->World->Prop}:∀(e:List (Bool×Nat)) (L:Array Bool) (a:Act) (w:World),preOB md l.toArray e L=true->bC P l.toArray S K (attachW l e) a w->wW P l.toArray S K e a w
 |[],_,_,_,_,h=>h
 |(true,k)::r,L,a,w,hB,h=>by
  simp only[preOB,Bool.and_eq_true,decide_eq_true_eq]at hB;have c:k<l.toArray.size:=l4 (md:=md) (listed:=L) (by rw[hB.1];simp);have d:l[k]?=some l[k]:=List.getElem?_eq_getElem (by simpa using c);simp only[attachW,d]at h;refine⟨l[k],by simp,?_⟩;rcases h with h|h
  ·exact .inl ⟨h.1,kQ (λv w' b=>⟨b.1,lK r _ _ _ hB.2 b.2⟩) h.2⟩
  ·exact .inr ⟨h.1,h.2.1,lK r _ _ _ hB.2 h.2.2⟩
 |(false,k)::r,L,a,w,hB,h=>by
  simp only[preOB,Bool.and_eq_true]at hB;have c:k<l.toArray.size:=l4 (md:=md) (listed:=L) (by simpa using hB.1.1);have d:l[k]?=some l[k]:=List.getElem?_eq_getElem (by simpa using c);simp only[attachW,d]at h;obtain⟨v,f,b⟩:=h;exact⟨l[k],by simp,v,f,lK r _ _ _ hB.2 b⟩
inductive OT where
 |last (l:List (Bool×Nat))
 |br (l:List (Bool×Nat)) (a:List Nat) (f:Nat->OT)
def treeB (md:Region.Mode) (ops:Array Oper):OT->Nat->Array Bool->Bool
 |.last l,n,L=>decide (n=l.length)&&preOB md ops l L&&(Region.ready md ops (pZ l L)).isEmpty
 |.br l a f,n,L=>decide (l.length+1<=n)&&preOB md ops l L&&decide (Region.ready md ops (pZ l L)=a)&&!a.isEmpty&&a.all λk=>treeB md ops (f k) (n-l.length-1) ((pZ l L).setIfInBounds k true)
def wpTree (P:Program) (l:List Oper) (S:World->Prop) (K:Act->World->Prop):OT->Act->World->Prop
 |.last b=>bC P l.toArray S K (attachW l b)
 |.br b c f=>bC P l.toArray S (λa w=>∀k∈c,bC P l.toArray S (wpTree P l S K (f k)) (attachW l [(true,k)]) a w) (attachW l b)
theorem my {l:List Oper} {K:Act->World->Prop} (j:Region.noSelect l.toArray=true):∀(t:OT) (n:Nat) (L:Array Bool) (a:Act) (w:World),S w->treeB md l.toArray t n L=true->wpTree P l S K t a w->ku P md l.toArray S K n L a w
 |.last b,n,L,a,w,d,hB,h=>by
  simp only[treeB,Bool.and_eq_true,decide_eq_true_eq]at hB;rw[hB.1.1,<-Nat.zero_add b.length];exact nA (K':=K) j 0 b L a w d hB.1.2 (λa w _ h=>⟨by simpa using hB.2,h⟩) (lK b L a w hB.1.2 h)
 |.br b y f,n,L,a,w,d,hB,h=>by
  simp only[treeB,Bool.and_eq_true,decide_eq_true_eq]at hB;obtain⟨⟨⟨⟨z,o⟩,k⟩,p⟩,r⟩:=hB;have e:n=(n-b.length-1+1)+b.length:=oO;rw[e];refine nA j (n-b.length-1+1) b L a w d o (λa w d h=>?_) (lK b L a w o h);refine⟨by rw[k];intro s;rw[s]at p;simp at p,λi g=>?_⟩;rw[k]at g;have u:i<l.toArray.size:=l4 (md:=md) (listed:=pZ b L) (by rw[k];exact g);have x:l[i]?=some l[i]:=List.getElem?_eq_getElem (by simpa using u);have c:=h i g;simp only[attachW,x]at c;have q:=List.all_eq_true.1 r i g;refine⟨l[i],by simp,?_⟩;rcases c with c|c
  ·exact .inl ⟨c.1,kQ (λv w' m=>⟨m.1,my j (f i) _ _ _ _ m.1 q m.2⟩) c.2⟩
  ·exact .inr ⟨c.1,c.2.1,my j (f i) _ _ _ _ c.2.1 q c.2.2⟩
theorem k6 {l:Array Oper} {K K':Act->World->Prop} (h:∀a w,K a w->K' a w):∀(r:List (Bool×Nat×Oper)) (a:Act) (w:World),bC P l S K r a w->bC P l S K' r a w
 |[],a,w,c=>h _ _ c
 |(true,_,e)::r,a,w,c=>by
  rcases c with b|b
  ·exact .inl ⟨b.1,kQ (λv w' d=>⟨d.1,k6 h r _ _ d.2⟩) b.2⟩
  ·exact .inr ⟨b.1,b.2.1,k6 h r _ _ b.2.2⟩
 |(false,_,e)::r,a,w,c=>by
  obtain⟨v,b,d⟩:=c;exact⟨v,b,k6 h r _ _ d⟩
theorem tj {l:List Oper} {K K':Act->World->Prop} (h:∀a w,K a w->K' a w):∀(t:OT) (a:Act) (w:World),wpTree P l S K t a w->wpTree P l S K' t a w
 |.last c,a,w,b=>k6 h _ _ _ b
 |.br c i f,a,w,b=>k6 (λa w d k e=>k6 (λa w g=>tj h (f k) a w g) _ _ _ (d k e)) _ _ _ b
theorem pn {id:Nat} {Q:Exit->Act->World->Prop} {a:Act} {w:World} {l:List Oper} (t:OT) (b:P.follows .mixedOrders=true) (hB:(Region.noSelect l.toArray&&treeB .any l.toArray t l.toArray.size (Array.replicate l.toArray.size false))=true)
 (c:S w.drew) (h:wpTree P l S (λa' W=>wpList P l.toArray Q [] a' W) t a w.drew):(Code.region id l.toArray true).wp P Q a w:=by
 simp only[Bool.and_eq_true]at hB;refine wp_region_any b ?_;exact nw (S:=S) _ _ _ _ (my (K:=Q .normal) hB.1 t _ _ a w.drew c hB.2 h)
theorem jT {id:Nat} {Q:Exit->Act->World->Prop} {a:Act} {w:World} {l:List Oper} (t:OT) (b:Act->Act->World->Prop) (c:P.follows .mixedOrders=true) (hB:(Region.noSelect l.toArray&&treeB .any l.toArray t l.toArray.size (Array.replicate l.toArray.size false))=true)
 (d:S w.drew) (h:wpTree P l S (b a) t a w.drew) (e:∀a' W,b a a' W->wpList P l.toArray Q [] a' W):(Code.region id l.toArray true).wp P Q a w:=by
 simp only[Bool.and_eq_true]at hB;refine wp_region_any c ?_;exact nw (S:=S) _ _ _ _ (my (K:=Q .normal) hB.1 t _ _ a w.drew d hB.2 (tj (λa' W h=>e a' W h) t _ _ h))
end
end
section
open Go.RowKit Go.WideMaps Go.Maps
theorem rB (off:Nat):∀(a:List Value) (s:Nat) (cells:Array Value),((a.zipIdx s).foldl (λb (x:Value×Nat)=>b.setIfInBounds (off+x.2) x.1) cells).size=cells.size
 |[],_,_=>rfl
 |x::a,s,cells=>by
  rw[List.zipIdx_cons,List.foldl_cons,rB off a (s+1)];simp
theorem tI (off:Nat):∀(a:List Value) (s:Nat) (cells:Array Value) (i:Nat),off+s+a.length<=cells.size->
 ((a.zipIdx s).foldl (λc (x:Value×Nat)=>c.setIfInBounds (off+x.2) x.1) cells)[i]?=if off+s<=i/\i<off+s+a.length then a[i-(off+s)]? else cells[i]?
 |[],s,cells,i,_=>by rw[if_neg (by simp only[List.length_nil];omega)];rfl
 |x::a,s,cells,i,h=>by
  rw[List.zipIdx_cons,List.foldl_cons,tI off a (s+1) _ i (by simp only[List.length_cons]at h;simp;omega)];simp only[List.length_cons]at h⊢;by_cases d:i=off+s
  ·subst d;rw[if_neg oO,if_pos oO,Nat.sub_self,List.getElem?_cons_zero,Array.getElem?_setIfInBounds_self_of_lt oO]
  ·by_cases b:off+(s+1)<=i/\i<off+(s+1)+a.length
   ·rw[if_pos b,if_pos oO];rw[show i-(off+s)=(i-(off+(s+1)))+1 from by omega,List.getElem?_cons_succ]
   ·rw[if_neg b,if_neg oO];rw[Array.getElem?_setIfInBounds_ne oO]
def xm:Array Value:=(Value.string ByteArray.empty::cC.toList++[Value.slice none 0 0,Value.map none]).toArray
theorem Bw:(Tryz.prog.info? 175).map (·.zero)=some (some (.agg xm)):=oK
theorem zB:xm.size=483:=oK
theorem BJ:(Tryz.prog.underlying 175).map (λd=>match d with|.struct a=>a.toList.mapM (λf=>(Tryz.prog.info? f.type).map λi=>(f.offset,i.size))|_=>none)=some (some [(0,1),(1,480),(481,1),(482,1)]):=oK
theorem uE (off:Nat) (Z:Array Value) (v:Value):Array.foldl (λa (x:Value×Nat)=>a.setIfInBounds (off+x.2) x.1) Z #[v].zipIdx=Z.setIfInBounds off v:=rfl
theorem iX (p:ByteArray) (s m:Value) (hs:s.cells=#[s]) (t:m.cells=#[m]):∃R:Array Value,Tryz.prog.built 175 [(0,.string p),(1,.agg gX),(2,s),(3,m)]=some R/\R.size=483/\R[0]?=some (.string p)/\(∀i v,gX[i]?=some v->R[1+i]?=some v)/\R[481]?=some s/\R[482]?=some m:=by
 have e:=Bw;have f:=BJ;have l:=zB;have n:=CI;generalize xm=Z at*;generalize gX=a at*;cases g:Tryz.prog.info? 175 with
 |none=>rw[g]at e;cases e
 |some u=>
  cases k:Tryz.prog.underlying 175 with
  |none=>rw[k]at f;cases f
  |some d=>
   rw[g]at e;rw[k]at f;have A:u.zero=some (.agg Z):=Option.some.inj e;have o:=Option.some.inj f;cases d<;>(try(simp at o;done))
   rename_i B
   simp only at o;unfold Program.built;rw[g,k];simp only[A,o];have w:(Value.string p).cells=#[.string p]:=rfl;have e1:(Value.agg a).cells=a:=rfl;have e2:(Value.agg Z).cells=Z:=rfl;have q:(Z.setIfInBounds 0 (.string p)).size=483:=by simp[l]
   have key:∀(Y:Array Value),Y.size=483->(a.zipIdx.foldl (λb (x:Value×Nat)=>b.setIfInBounds (1+x.2) x.1) Y).size=483/\∀i,(a.zipIdx.foldl (λb (x:Value×Nat)=>b.setIfInBounds (1+x.2) x.1) Y)[i]?=if 1<=i/\i<481 then a[i-1]? else Y[i]?:=by
    intro Y j;have hl:a.toList.length=480:=by rw[Array.length_toList];exact n
    have y:a.zipIdx.foldl (λb (x:Value×Nat)=>b.setIfInBounds (1+x.2) x.1) Y=(a.toList.zipIdx 0).foldl (λb (x:Value×Nat)=>b.setIfInBounds (1+x.2) x.1) Y:=by
     rw[<-Array.foldl_toList,Array.toList_zipIdx]
    rw[y];refine⟨by rw[rB];exact j,λi=>?_⟩;rw[tI 1 a.toList 0 Y i (by rw[hl,j];omega),hl];simp only[Nat.add_zero,Array.getElem?_toList]
   have c:=key _ q;simp only[Instr.fill,List.getElem?_toArray,List.getElem?_cons_zero,List.getElem?_cons_succ,w,e1,e2,hs,t,List.size_toArray,List.length_cons,List.length_nil,n,l,ne_eq,not_true_eq_false,decide_false,Bool.false_or];rw[uE,uE,uE];obtain⟨Y,j⟩:∃Y,Y=Array.foldl (λb (x:Value×Nat)=>b.setIfInBounds (1+x.2) x.1) (Z.setIfInBounds 0 (.string p)) a.zipIdx:=⟨_,rfl⟩;rw[<-j]at c⊢;have z:(Y.setIfInBounds 481 s).size=483:=by simp[c.1]
   rw[if_neg oS,if_neg (by rw[q];simp),if_neg (by rw[c.1];simp),if_neg (by rw[z];simp)];refine⟨_,rfl,by simp[c.1],?_,λi v r=>?_,?_,?_⟩
   ·rw[Array.getElem?_setIfInBounds_ne oO,Array.getElem?_setIfInBounds_ne oO,c.2,if_neg oO];simp[l]
   ·have g:i<480:=by rw[<-n];exact(Array.getElem?_eq_some_iff.1 r).1
    rw[Array.getElem?_setIfInBounds_ne oO,Array.getElem?_setIfInBounds_ne oO,c.2,if_pos oO,Nat.add_sub_cancel_left];exact r
   ·rw[Array.getElem?_setIfInBounds_ne oO];simp[c.1]
   ·simp[c.1]
theorem EP {a:Act} {f:Oper} {W:World} {x:Operand} (g:f.op= .convert 22 9 x) {A:Option Addr} {n c:Nat} {l:List UInt8} (i:a.eval x= .slice A n c) (h:SR vU 0 W A n c l):
 (execOp a.eval f).run Tryz.prog W= .ok (.value (.string ⟨l.toArray⟩)) W:=by
 have hn:=h.hn;have k:(convert 22 9 (.slice A n c)).run Tryz.prog W= .ok (.string ⟨l.toArray⟩) W:=by
  rcases Nat.eq_zero_or_pos l.length with d|d
  ·have hl:l=[]:=List.eq_nil_of_length_eq_zero d;subst hl;rw[hn];cases A with
   |none=>rw[run_convert_bytes_string W _ _ 5 _ _ _ Tryz.underlying22 Tryz.underlying5 Tryz.underlying9];rfl
   |some e=>exact run_convert_bytes_back W _ _ 5 e c [] Tryz.underlying22 Tryz.underlying5 Tryz.underlying9 (λj b=>by simp at b)
  ·obtain⟨e,rfl,_,hc⟩:=h.rd d;rw[hn];exact run_convert_bytes_back W _ _ 5 e c l Tryz.underlying22 Tryz.underlying5 Tryz.underlying9 (λj b=>by rw[hc j b];simp[List.getD,b])
 unfold execOp;simp only[g,i,k,Sem.run_bind,Sem.run_pure,Result.andThen_ok]
def s5 (W:World) (b n:Nat):Prop:=∃a t,W.heap[b]?=some (.cells a t (0,0))/\∀i,i<5* (n+1)->a[i]?=some (.int .i64 0)
theorem s5.below {W a:World} {b n:Nat} (h:s5 W b n) (hb:Below W.heap.size W a):s5 a b n:=by
 obtain⟨e,t,c,d⟩:=h;exact⟨e,t,(hb.block _ (ar c)).trans c,d⟩
theorem Ka:(Tryz.prog.info? 131).map (λi=>(i.zero,i.size,i.bytes))=some (some (.agg #[.int .i64 0,.int .i64 0,.int .i64 0,.int .i64 0,.int .i64 0]),5,40):=oK
theorem ER {a:Act} {b:Oper} {W:World} {l c:Operand} (g:b.op= .makeSlice 172 l c) (n:Nat) (hn:n<=4096) (hl:a.eval l= .int .i64 ((n+1:Nat):Int)) (hc:a.eval c= .int .i64 ((n+1:Nat):Int)):
 ∃d,(execOp a.eval b).run Tryz.prog W= .ok (.value (.slice (some ⟨W.heap.size,0,none⟩) (n+1) (n+1))) d/\s5 d W.heap.size n/\Below W.heap.size W d:=by
 obtain⟨j,f,m,o,p⟩:=info_parts Ka;have e:=run_make (P:=Tryz.prog) W 172 131 j _ Tryz.underlying172 f m .i64 .i64 ((n+1:Nat):Int) ((n+1:Nat):Int) oO (Int.le_refl _) (by rw[p];omega) oO;simp only[Int.toNat_natCast]at e;rw[o]at e;have q:(execOp a.eval b).run Tryz.prog W= .ok (.value (.slice (some ⟨W.heap.size,0,none⟩) (n+1) (n+1))) (W.alloc (.cells (madeCells #[Value.int .i64 0,.int .i64 0,.int .i64 0,.int .i64 0,.int .i64 0] ((n+1)* 5)) 131)):=by
  unfold execOp;simp only[g,hl,hc,e,Sem.run_bind,Sem.run_pure,Result.andThen_ok];rfl
 refine⟨_,q,⟨_,_,heap_alloc_new W _,λi f=>?_⟩,ax _ _⟩;unfold madeCells;rw[Array.getElem?_map,Array.getElem?_range,if_pos oO];have k:i%5=0\/i%5=1\/i%5=2\/i%5=3\/i%5=4:=oO;show some (#[Value.int .i64 0,.int .i64 0,.int .i64 0,.int .i64 0,.int .i64 0][i%5]!)=_;rcases k with h|h|h|h|h<;>rw[h]<;>rfl
theorem DY {a:Act} {b:Oper} {W:World} (c:b.op= .makeMap 173 none):
 (execOp a.eval b).run Tryz.prog W= .ok (.value (.map (some W.heap.size))) (W.alloc (.map #[] 0))/\cW (W.alloc (.map #[] 0)) W.heap.size 0 (λ_ _=>none):=by
 refine⟨?_,.map [],Maps.isMap_empty,World.ownsMap_made _ _ _ _,λa m b _ _ h=>by cases h⟩;unfold execOp;simp only[c,Sem.run_bind,Sem.run_pure];rfl
theorem jB {a:Act} {d:Oper} {W:World} {x0 e f g:Operand} (i:d.op= .build 175 #[(0,x0),(1,e),(2,f),(3,g)]) {p:ByteArray} {A:Option Addr} {n c:Nat} {b:Option Nat}
 (j:a.eval x0= .string p) (k:a.eval e= .agg gX) (l:a.eval f= .slice A n c) (m:a.eval g= .map b) (R:Array Value) (o:Tryz.prog.built 175 [(0,.string p),(1,.agg gX),(2,.slice A n c),(3,.map b)]=some R):
 (execOp a.eval d).run Tryz.prog W= .ok (.value (.agg R)) W:=by
 have q:=run_build (P:=Tryz.prog) W 175 #[(0,.string p),(1,.agg gX),(2,.slice A n c),(3,.map b)] R o;unfold execOp;simp only[i,List.map_toArray,List.map_cons,List.map_nil,j,k,l,m,q,Sem.run_bind,Sem.run_pure,Result.andThen_ok]
theorem kY {a:Act} {b:Oper} {W:World} {x:Operand} (c:b.op= .box 175 x) {R:Array Value} (d:a.eval x= .agg R):
 (execOp a.eval b).run Tryz.prog W= .ok (.value (.pointer (some ⟨W.heap.size,0,none⟩))) (W.alloc (.cells R 175)):=by
 unfold execOp;simp only[c,d,Instr.box,newVar,newRow,Value.cells,Sem.run_bind,Sem.run_pure];rfl
theorem SQ.made {X:World} {p:ByteArray} {b hb n:Nat} {R:Array Value} (j:s5 X b n) (c:cW X hb 0 (λ_ _=>none)) (hn:n=p.size) (k:p.size<=4096)
 (l:R[0]?=some (.string p)) (o:∀i v,gX[i]?=some v->R[1+i]?=some v) (q:R[481]?=some (.slice (some ⟨b,0,none⟩) (n+1) (n+1))) (r:R[482]?=some (.map (some hb))):
 SQ (X.alloc (.cells R 175)) X.heap.size b (n+1) hb p (λ_ _=>0)/\cW (X.alloc (.cells R 175)) hb 0 (λ_ _=>none):=by
 have w:cW (X.alloc (.cells R 175)) hb 0 (λ_ _=>none):=c.below (ax _ _);obtain⟨x,t,d,s⟩:=j;have y:b<X.heap.size:=ar d;have g:(X.alloc (.cells R 175)).heap[b]?=some (.cells x t (0,0)):=(Below.heap_alloc X _ _ y).trans d;have hs:∀i,(X.alloc (.cells R 175)).cell? ⟨X.heap.size,i,none⟩=R[i]?:=λi=>World.cell?_alloc_at _ _ _ _ rfl;have z:hb≠b:=by
  intro e;obtain⟨D,_,⟨A,clock,f,_⟩,_⟩:=c;rw[e,d]at f;cases f
 refine⟨⟨⟨by simp,by rw[hs];exact l,λi v u=>by rw[hs];exact o i v u,by rw[hs,<-hn];exact q,by rw[hs];exact r,by simp;omega,λa m B C=>?_,by omega,k,λ_ _=>Nat.zero_le _⟩,⟨by simp;omega,λi E=>frozen_of_row _ _ _ _ _ g⟩,by omega,by have:=c.lt;omega,z⟩,w⟩;rw[cell_of_row _ _ _ _ _ _ g];exact s _ oO
theorem lP {e:Array Oper} {S:World->Prop} {K:Act->World->Prop} {r:List (Bool×Nat×Oper)} {k:Nat} {d:Oper} {a:Act} {W:World} {l c:Operand} (m:Region.wanted d (yielded e a.tmps)=true) (j:d.op= .makeSlice 172 l c) (n:Nat) (hn:n<=4096) (hl:a.eval l= .int .i64 ((n+1:Nat):Int)) (hc:a.eval c= .int .i64 ((n+1:Nat):Int))
 (f:∀b,s5 b W.heap.size n->Below W.heap.size W b->S b/\bC Tryz.prog e S K r (a.put d.dst (.slice (some ⟨W.heap.size,0,none⟩) (n+1) (n+1))) b):bC Tryz.prog e S K ((true,k,d)::r) a W:=by
 obtain⟨b,o,g,i⟩:=ER (a:=a) j n hn hl hc;exact gK m o (f b g i).1 (f b g i).2
theorem lr {d:Array Oper} {S:World->Prop} {K:Act->World->Prop} {r:List (Bool×Nat×Oper)} {k:Nat} {b:Oper} {a:Act} {W:World} (i:Region.wanted b (yielded d a.tmps)=true) (g:b.op= .makeMap 173 none)
 (e:∀c,cW c W.heap.size 0 (λ_ _=>none)->Below W.heap.size W c->S c/\bC Tryz.prog d S K r (a.put b.dst (.map (some W.heap.size))) c):bC Tryz.prog d S K ((true,k,b)::r) a W:=by
 obtain⟨j,f⟩:=DY (a:=a) (W:=W) g;exact gK i j (e _ f (ax _ _)).1 (e _ f (ax _ _)).2
theorem Ed {p:ByteArray} {l:List UInt8} (d:p=⟨l.toArray⟩) {a:Act} {b:Oper} {W:World} {x:Operand} (e:b.op= .convert 22 9 x) {A:Option Addr} {n c:Nat} (f:a.eval x= .slice A n c) (h:SR vU 0 W A n c l):
 (execOp a.eval b).run Tryz.prog W= .ok (.value (.string p)) W:=by
 subst d;exact EP e f h
def Lv (w:World) (p:ByteArray) (A:Option Addr) (n c:Nat) (a a':Act) (W:World):Prop:=∃(b d hb:Nat) (R:Array Value),
 a'=⟨#[.slice A n c,undef,.pointer none,.int .i64 (n:Int),.pointer (some ⟨b,0,none⟩),undef,.slice A n c,.int .i64 (n:Int),.slice A n c,.string p,.agg gX,.int .i64 (n:Int),.int .i64 ((n+1:Nat):Int),.slice (some ⟨d,0,none⟩) (n+1) (n+1),.map (some hb),.agg R,.pointer (some ⟨b,0,none⟩),undef,undef,undef,undef,undef,undef,undef,undef,undef,undef],[]⟩/\
 SQ W b d (n+1) hb p (λ_ _=>0)/\cW W hb 0 (λ_ _=>none)/\Below w.heap.size w W/\w.heap.size<=b/\w.heap.size<=d/\w.heap.size<=hb
theorem yF (A:Option Addr) (n c:Nat) (l:List UInt8) (w:World) (hb:SR vU 0 w A n c l) (hn:n<=4096):
 Calls Tryz.prog 80 #[.slice A n c] w λe w'=>∃v y cap hb C u,e= .returned (.pointer (some ⟨v,0,none⟩))/\SQ w' v y cap hb ⟨l.toArray⟩ C/\cW w' hb (5* n) u/\
  (∀a,a<n->lO C ⟨l.toArray⟩ a/\∀m,u a m=dq C ⟨l.toArray⟩ a m)/\(∀a m,n<=a->C a m=0)/\Below w.heap.size w w':=by
 obtain⟨p,L⟩:∃p:ByteArray,p=⟨l.toArray⟩:=⟨_,rfl⟩;have be:n=p.size:=by rw[hb.hn,L];show l.length=l.toArray.size;simp
 have av:p.size<=4096:=oO;rw[<-L];have dl:=Lib.hid L;have c6:=Lib.hid hb;have ez:IntKind.i64.wrap ((n:Int)+1)=((n+1:Nat):Int):=by rw[aE _ oO oO];omega
 have o:=Lib.hid be;have q:=Lib.hid av;clear hb L be av;go_enter Tryz.func80,Tryz.ntmps80;go_wp2;have x:Hid (af w w.drew):=ai (Below.refl _ _);refine jT (S:=af w) (.br [(false,0),(false,1),(false,3),(false,4)] [2,5,6] (λk=>if k=2 then .br [] [5,6] (λk=>if k=5 then .last [(true,6),(false,7),(true,8),(false,9)]else .last [(true,5),(false,7),(true,8),(false,9)])else if k=5 then .br [] [2,6] (λk=>if k=2 then .last [(true,6),(false,7),(true,8),(false,9)]else .last [(true,2),(false,7),(true,8),(false,9)])else .br [] [2,5] (λk=>if k=2 then .last [(true,5),(false,7),(true,8),(false,9)]else .last [(true,2),(false,7),(true,8),(false,9)]))) (Lv w p A n c) oK oK x.out ?_ ?_
 ·simp only[wpTree,attachW,List.getElem?_cons_zero,List.getElem?_cons_succ];refine zU ?_;refine' zV rfl (λW s=>Ed dl.out rfl rfl (c6.out.below s)) ?_;refine zU ?_;refine zU ?_;refine ag ?_;intro k r;simp only[List.mem_cons,List.not_mem_nil,or_false]at r;rcases r with rfl|rfl|rfl
  ·simp only[reduceIte,Nat.reduceEqDiff,wpTree,attachW,List.getElem?_cons_zero,List.getElem?_cons_succ];refine zZ ?_;refine(mG _).mono ?_;rintro e X ⟨rfl,ds⟩;have F:Hid (af w X):=aa x.out ds;refine⟨_,rfl,F.out,jO ?_⟩;refine ag ?_
   (try simp only[reduceIte,Nat.reduceEqDiff,wpTree,attachW,List.getElem?_cons_zero,List.getElem?_cons_succ])
   refine ag ?_;intro k r;simp only[List.mem_cons,List.not_mem_nil,or_false]at r;rcases r with rfl|rfl
   ·simp only[reduceIte,wpTree,attachW,List.getElem?_cons_zero,List.getElem?_cons_succ];refine' lP rfl rfl n hn rfl rfl ?_;intro a0 dv dx;have ab:Hid (af w a0):=aa F.out dx;have dy:=Lib.hid dv;refine⟨ab.out,?_⟩;simp only[yQ,yU,yX,yY];refine ag ?_
    (try simp only[reduceIte,Nat.reduceEqDiff,wpTree,attachW,List.getElem?_cons_zero,List.getElem?_cons_succ])
    refine' lr rfl rfl ?_;intro a1 d0 bf;have M:Hid (af w a1):=aa ab.out bf;have bi:=Lib.hid (dy.out.below bf);have bo:=Lib.hid d0;refine⟨M.out,?_⟩;simp only[yQ,yU,yX,yY];obtain⟨R,t,G,b,d,f,g⟩:=iX p (.slice (some ⟨_,0,none⟩) (n+1) (n+1)) (.map (some _)) rfl rfl;refine' zV rfl (λW s=>jB rfl rfl rfl rfl rfl R t) ?_;refine' zQ rfl (kY rfl rfl) (ah M.out _) ?_;refine zU ?_;refine ag ?_;exact⟨a1.heap.size,X.heap.size,a0.heap.size,R,rfl,(SQ.made bi.out bo.out o.out q.out b d f g).1,(SQ.made bi.out bo.out o.out q.out b d f g).2,ah M.out _,M.out.size,F.out.size,ab.out.size⟩
   ·simp only[reduceIte,Nat.reduceEqDiff,wpTree,attachW,List.getElem?_cons_zero,List.getElem?_cons_succ];refine' lr rfl rfl ?_;intro a2 d1 d2;have ac:Hid (af w a2):=aa F.out d2;have d3:=Lib.hid d1;refine⟨ac.out,?_⟩;simp only[yQ,yU,yX,yY];refine ag ?_
    (try simp only[reduceIte,Nat.reduceEqDiff,wpTree,attachW,List.getElem?_cons_zero,List.getElem?_cons_succ])
    refine' lP rfl rfl n hn rfl rfl ?_;intro a3 d4 bq;have N:Hid (af w a3):=aa ac.out bq;have bs:=Lib.hid (d3.out.below bq);have bt:=Lib.hid d4;refine⟨N.out,?_⟩;simp only[yQ,yU,yX,yY];obtain⟨R,t,G,b,d,f,g⟩:=iX p (.slice (some ⟨_,0,none⟩) (n+1) (n+1)) (.map (some _)) rfl rfl;refine' zV rfl (λW s=>jB rfl rfl rfl rfl rfl R t) ?_;refine' zQ rfl (kY rfl rfl) (ah N.out _) ?_;refine zU ?_;refine ag ?_;exact⟨a3.heap.size,a2.heap.size,X.heap.size,R,rfl,(SQ.made bt.out bs.out o.out q.out b d f g).1,(SQ.made bt.out bs.out o.out q.out b d f g).2,ah N.out _,N.out.size,ac.out.size,F.out.size⟩
  ·simp only[reduceIte,Nat.reduceEqDiff,wpTree,attachW,List.getElem?_cons_zero,List.getElem?_cons_succ];refine' lP rfl rfl n hn rfl rfl ?_;intro a4 d5 O;have D:Hid (af w a4):=aa x.out O;have bv:=Lib.hid d5;refine⟨D.out,?_⟩;simp only[yQ,yU,yX,yY];refine ag ?_
   (try simp only[reduceIte,Nat.reduceEqDiff,wpTree,attachW,List.getElem?_cons_zero,List.getElem?_cons_succ])
   refine ag ?_;intro k r;simp only[List.mem_cons,List.not_mem_nil,or_false]at r;rcases r with rfl|rfl
   ·simp only[reduceIte,wpTree,attachW,List.getElem?_cons_zero,List.getElem?_cons_succ];refine zZ ?_;refine(mG _).mono ?_;rintro e a5 ⟨rfl,bx⟩;have ad:Hid (af w a5):=aa D.out bx;have d6:=Lib.hid (bv.out.below bx);refine⟨_,rfl,ad.out,jO ?_⟩;refine ag ?_
    (try simp only[reduceIte,Nat.reduceEqDiff,wpTree,attachW,List.getElem?_cons_zero,List.getElem?_cons_succ])
    refine' lr rfl rfl ?_;intro a6 d7 bz;have P:Hid (af w a6):=aa ad.out bz;have b1:=Lib.hid (d6.out.below bz);have b2:=Lib.hid d7;refine⟨P.out,?_⟩;simp only[yQ,yU,yX,yY];obtain⟨R,t,G,b,d,f,g⟩:=iX p (.slice (some ⟨_,0,none⟩) (n+1) (n+1)) (.map (some _)) rfl rfl;refine' zV rfl (λW s=>jB rfl rfl rfl rfl rfl R t) ?_;refine' zQ rfl (kY rfl rfl) (ah P.out _) ?_;refine zU ?_;refine ag ?_;exact⟨a6.heap.size,w.drew.heap.size,a5.heap.size,R,rfl,(SQ.made b1.out b2.out o.out q.out b d f g).1,(SQ.made b1.out b2.out o.out q.out b d f g).2,ah P.out _,P.out.size,x.out.size,ad.out.size⟩
   ·simp only[reduceIte,Nat.reduceEqDiff,wpTree,attachW,List.getElem?_cons_zero,List.getElem?_cons_succ];refine' lr rfl rfl ?_;intro c7 d8 b3;have b4:Hid (af w c7):=aa D.out b3;have d9:=Lib.hid (bv.out.below b3);have ea:=Lib.hid d8;refine⟨b4.out,?_⟩;simp only[yQ,yU,yX,yY];refine ag ?_
    (try simp only[reduceIte,Nat.reduceEqDiff,wpTree,attachW,List.getElem?_cons_zero,List.getElem?_cons_succ])
    refine zZ ?_;refine(mG _).mono ?_;rintro e b5 ⟨rfl,al⟩;have Q:Hid (af w b5):=aa b4.out al;have ck:=Lib.hid (d9.out.below al);have co:=Lib.hid (ea.out.below al);refine⟨_,rfl,Q.out,jO ?_⟩;obtain⟨R,t,G,b,d,f,g⟩:=iX p (.slice (some ⟨_,0,none⟩) (n+1) (n+1)) (.map (some _)) rfl rfl;refine' zV rfl (λW s=>jB rfl rfl rfl rfl rfl R t) ?_;refine' zQ rfl (kY rfl rfl) (ah Q.out _) ?_;refine zU ?_;refine ag ?_;exact⟨b5.heap.size,w.drew.heap.size,a4.heap.size,R,rfl,(SQ.made ck.out co.out o.out q.out b d f g).1,(SQ.made ck.out co.out o.out q.out b d f g).2,ah Q.out _,Q.out.size,x.out.size,D.out.size⟩
  ·simp only[reduceIte,Nat.reduceEqDiff,wpTree,attachW,List.getElem?_cons_zero,List.getElem?_cons_succ];refine' lr rfl rfl ?_;intro b6 en eq;have T:Hid (af w b6):=aa x.out eq;have cp:=Lib.hid en;refine⟨T.out,?_⟩;simp only[yQ,yU,yX,yY];refine ag ?_
   (try simp only[reduceIte,Nat.reduceEqDiff,wpTree,attachW,List.getElem?_cons_zero,List.getElem?_cons_succ])
   refine ag ?_;intro k r;simp only[List.mem_cons,List.not_mem_nil,or_false]at r;rcases r with rfl|rfl
   ·simp only[reduceIte,wpTree,attachW,List.getElem?_cons_zero,List.getElem?_cons_succ];refine zZ ?_;refine(mG _).mono ?_;rintro e b7 ⟨rfl,cq⟩;have am:Hid (af w b7):=aa T.out cq;have er:=Lib.hid (cp.out.below cq);refine⟨_,rfl,am.out,jO ?_⟩;refine ag ?_
    (try simp only[reduceIte,Nat.reduceEqDiff,wpTree,attachW,List.getElem?_cons_zero,List.getElem?_cons_succ])
    refine' lP rfl rfl n hn rfl rfl ?_;intro b8 es cr;have U:Hid (af w b8):=aa am.out cr;have cs:=Lib.hid (er.out.below cr);have cv:=Lib.hid es;refine⟨U.out,?_⟩;simp only[yQ,yU,yX,yY];obtain⟨R,t,G,b,d,f,g⟩:=iX p (.slice (some ⟨_,0,none⟩) (n+1) (n+1)) (.map (some _)) rfl rfl;refine' zV rfl (λW s=>jB rfl rfl rfl rfl rfl R t) ?_;refine' zQ rfl (kY rfl rfl) (ah U.out _) ?_;refine zU ?_;refine ag ?_;exact⟨b8.heap.size,b7.heap.size,w.drew.heap.size,R,rfl,(SQ.made cv.out cs.out o.out q.out b d f g).1,(SQ.made cv.out cs.out o.out q.out b d f g).2,ah U.out _,U.out.size,am.out.size,x.out.size⟩
   ·simp only[reduceIte,Nat.reduceEqDiff,wpTree,attachW,List.getElem?_cons_zero,List.getElem?_cons_succ];refine' lP rfl rfl n hn rfl rfl ?_;intro ec et cx;have cy:Hid (af w ec):=aa T.out cx;have ew:=Lib.hid (cp.out.below cx);have ex:=Lib.hid et;refine⟨cy.out,?_⟩;simp only[yQ,yU,yX,yY];refine ag ?_
    (try simp only[reduceIte,Nat.reduceEqDiff,wpTree,attachW,List.getElem?_cons_zero,List.getElem?_cons_succ])
    refine zZ ?_;refine(mG _).mono ?_;rintro e b9 ⟨rfl,ap⟩;have V:Hid (af w b9):=aa cy.out ap;have c2:=Lib.hid (ex.out.below ap);have c3:=Lib.hid (ew.out.below ap);refine⟨_,rfl,V.out,jO ?_⟩;obtain⟨R,t,G,b,d,f,g⟩:=iX p (.slice (some ⟨_,0,none⟩) (n+1) (n+1)) (.map (some _)) rfl rfl;refine' zV rfl (λW s=>jB rfl rfl rfl rfl rfl R t) ?_;refine' zQ rfl (kY rfl rfl) (ah V.out _) ?_;refine zU ?_;refine ag ?_;exact⟨b9.heap.size,b6.heap.size,w.drew.heap.size,R,rfl,(SQ.made c2.out c3.out o.out q.out b d f g).1,(SQ.made c2.out c3.out o.out q.out b d f g).2,ah V.out _,V.out.size,T.out.size,x.out.size⟩
 ·rintro a' W ⟨v,y,hb,R,rfl,z,B,ca,H,E,a7⟩;have a8:=Lib.hid z;have a9:=Lib.hid B;have c4:=Lib.hid ca;have ed:Hid (w.heap.size<=v/\w.heap.size<=y/\w.heap.size<=hb):=⟨H,E,a7⟩;clear z B ca H E a7;generalize((n+1:Nat):Int)=e0;go_wp2
  go_loopw [5] (λY wr=>∃(k:Nat) (j:Int) (C:Nat->Nat->Nat) (u:Nat->Nat->Option ay),k<=n/\Y= .int .i64 j/\Hid (j=(n:Int)-1-k)/\Hid (SQ wr v y (n+1) hb p C)/\Hid (cW wr hb (5* k) u)/\Hid (Below w.heap.size w wr)/\
   Hid (∀a,n<=a+k->a<n->lO C p a/\∀m,u a m=dq C p a m)/\Hid (∀a m,n<=a->C a m=0)) (λY _=>(intOf Y+1).toNat)
  case atStart=>exact⟨0,_,_,_,Nat.zero_le _,rfl,by show _=_;omega,a8.out,a9.out,c4.out,λa H E=>by omega,λ_ _ _=>rfl⟩
  case round=>
   clear a8 a9 c4;obtain⟨k,j,C,u,r,rfl,bb,z,B,s,hF,Z⟩:=hrel;by_cases e9:k<n
   ·obtain⟨i,cb⟩:∃i,i=n-1-k:=⟨_,rfl⟩;obtain rfl:j=(i:Int):=by have:=bb.out;omega
    have J:=Lib.hid cb;have fb:i<=4096:=oO;have ef:i<p.size:=by have:=o.out;omega
    clear cb;go_wp2_with(go_at_call 130;refine(Eg i wr w.heap.size v y (n+1) hb (5* k) p C u z.out B.out ef ed.out oO).mono ?_;rintro e ey ⟨rfl,C',ce,cg,ch,O⟩;have eh:=Lib.hid ce;have ci:=Lib.hid cg;have el:=Lib.hid ch;have D:=Lib.hid O;clear ce cg ch O)
    have c5:=ci.out.1;refine⟨⟨k+1,_,C',_,by omega,rfl,by have:=J.out;show _=_;omega,eh.out,el.out,s.out.trans D.out,?_,?_⟩,by simp[intOf]⟩
    ·show∀a,_;intro a H E;by_cases e:a=i
     ·subst e;exact⟨ci.out.fix,λm=>if_pos rfl⟩
     ·obtain⟨c8,c9⟩:=hF.out a (by have:=J.out;omega) E;have hc:∀a' m,a<=a'->C' a' m=C a' m:=λa' m K=>c5 a' m (by have:=J.out;omega);exact⟨c8.congr hc,λm=>by rw[if_neg e,c9 m,dq.congr hc]⟩
    ·show∀a m,_;intro a m K;rw[c5 a m (by have:=J.out;omega)];exact Z.out a m K
   ·have em:k=n:=oO;have fc:decide ((0:Int)<=j)=false:=by have:=bb.out;simp;omega
    have di:Hid (SQ wr v y (n+1) hb p C/\cW wr hb (5* n) u/\(∀a,a<n->lO C p a/\∀m,u a m=dq C p a m)/\(∀a m,n<=a->C a m=0)/\Below w.heap.size w wr):=by
     have bd:=B.out;rw[em]at bd;exact⟨z.out,bd,λa K=>hF.out a oO K,Z.out,s.out⟩
    clear z B s hF Z;go_wp2;go_ret;exact⟨v,y,n+1,hb,C,u,rfl,di.out⟩
def notBits:Obj->Bool
 |.cells _ t _=>!(t==4)&&!(t==26)
 |_=>true
def iO (w w':World):Prop:=∀(k:Nat) (a:Obj),w.heap[k]?=some a->notBits a=true->w'.heap[k]?=some a
theorem iO.trans {a b c:World} (h:iO a b) (f:iO b c):iO a c:=λk d g e=>f k d (h k d g e) e
theorem iO.below {w W:World} (h:Below w.heap.size w W):iO w W:=λk b a _=>(h.block k (ar a)).trans a
theorem ae.dz {w w':World} {g:Nat} {a:Array Value} {t:TypeId} (h:ae w g a t) (b:iO w w') (c:notBits (.cells a t (0,0))=true):ae w' g a t:=b g _ h c
theorem ae.jn {w:World} {g i:Nat} {a:Array Value} {t:TypeId} (h:ae w g a t) (u:Value):ae (w.setCell ⟨g,i,none⟩ u) g (a.setIfInBounds i u) t:=heap_setCell_same w g i a t u h
structure BO (n:Nat) (w wr:World) (b:Nat) (a:List Bool):Prop where
 B:Below n w wr
 X:∃A c,ae wr b #[.slice A a.length c] 26/\wr.ownsRow n 4 1 (.slice A a.length c) a.length (a.map vB)
 n1:n<=b
 n2:n<=wr.heap.size
theorem BO.below {n:Nat} {w wr W:World} {b:Nat} {d:List Bool} (h:BO n w wr b d) (a:Below wr.heap.size wr W):BO n w W b d:=by
 obtain⟨A,c,e,f⟩:=h.X;exact⟨h.B.trans (a.mono h.n2),⟨A,c,e.below a,ao f a⟩,h.n1,Nat.le_trans h.n2 a.size⟩
theorem GM {n:Nat} {w:World} {a q:Nat} {u:Value} {v:Value} {k:Nat} {xs:List Value} (b:ae w a #[u] 26) (c:w.ownsRow n 4 1 v k xs) (hq:v.ownBlock=some q):q≠a:=by
 rcases c.2 with⟨rfl,_⟩|⟨g,cap,d,rfl,_,hg,_⟩
 ·cases hq
 ·simp only[Value.ownBlock,Option.some.injEq]at hq;subst hq;intro e;subst e;unfold ae at b;rw[b]at hg;injection hg with hg;injection hg with _ e _;exact absurd e oD
theorem iO.grown {n:Nat} {w W:World} {v:Value} {k:Nat} {xs:List Value} (h:w.ownsRow n 4 1 v k xs) (hg:w.grownBy W v.ownBlock):iO w W:=by
 intro q c a hn;refine(hg.block q (ar a) ?_).trans a;intro e;rcases h.2 with⟨rfl,_⟩|⟨g,cap,d,rfl,_,b,_⟩
 ·cases e
 ·simp only[Value.ownBlock,Option.some.injEq]at e;subst e;rw[b]at a;injection a with a;subst a;exact absurd hn (by simp[notBits])
theorem iO.jn {w:World} {g i:Nat} {b:Array Value} (h:ae w g b 26) (u:Value):iO w (w.setCell ⟨g,i,none⟩ u):=by
 intro q c a hn;refine(Below.heap_setCell _ _ _ _ ?_).trans a;intro e;subst e;unfold ae at h;rw[h]at a;injection a with a;subst a;exact absurd hn (by simp[notBits])
theorem CQ (n:Nat) (w0 w:World) (a:Nat) (b:List Bool) (v k:Nat) (h:BO n w0 w a b) (N:v<=1000000000000) (O:k<=62) (hl:b.length<=4000000000):
 Calls Tryz.prog 131 #[.int .i64 (v:Int),.int .i64 (k:Int),.pointer (some ⟨a,0,none⟩)] w λe w'=>e= .returned (.tuple #[])/\BO n w0 w' a (b++bh v k)/\iO w w':=by
 obtain⟨P,Q,Z,ab,ac⟩:=info_parts gU;obtain⟨A,c,D,E⟩:=h.X;have S:=Lib.hid D;have T:=Lib.hid E;have U:=Lib.hid h.B;have j:Hid (n<=a/\n<=w.heap.size):=⟨h.n1,h.n2⟩;have H:=Lib.hid (bM v k);clear h D E;go_enter Tryz.func131,Tryz.ntmps131
 go_wp2_with(first
  |(go_at_call 59;refine(CK v k _ N O).mono ?_;rintro e F ⟨v4,rfl,J,s⟩;obtain⟨V,n4,W,rfl,K⟩:=J.parts;have m:=Lib.hid s;have o:=Lib.hid K;have t:=Lib.hid (S.out.below s);have u:=Lib.hid (ao T.out s);have ap:F.cell? ⟨a,0,none⟩=some (.slice A b.length c):=t.out.cell 0 _ rfl;clear J s K)
  |(at_builtin;refine bg (f:=vB) (d:=false) AF rfl _ _ _ rfl n 4 P _ 1 Tryz.underlying26 Q Z ab ac rfl _ b.length b rfl u.out V n4 W (bh v k) rfl o.out.hn o.out.rd (by have:=o.out.hn;have:=H.out;unfold maxLen;omega) (by have:=o.out.hn;have:=H.out;omega) (Nat.le_trans j.out.2 m.out.size) ?_;intro av l C hg;obtain⟨x,y,rfl⟩:=cd C;have B:=Lib.hid hg;have L:=Lib.hid C;have p:Hid (ae l a #[.slice A b.length c] 26):=(hg.block a (ar t.out) (λe=>GM t.out u.out e.symm rfl)).trans t.out;have a0:l.cell? ⟨a,0,none⟩=some (.slice A b.length c):=p.out.cell 0 _ rfl;have a1:l.frozen? ⟨a,0,none⟩=false:=frozen_of_row _ _ _ _ _ p.out;clear C hg))
 refine bodyPost_end (results_none rfl _ _ _) rfl ?_;have M:=o.out.hn;refine⟨rfl,⟨?_,⟨x,y,?_,?_⟩,j.out.1,?_⟩,?_⟩
 ·have ad:Below n w0 F:=U.out.trans (m.out.mono j.out.2);have al:Below n w0 l:=ad.grown B.out (Nat.le_trans j.out.2 m.out.size) (λq hq=>(u.out.lt q hq).1);exact al.setCell (by exact j.out.1) _
 ·have r:=p.out.jn (i:=0) (.slice x (b.length+n4) y);rw[List.length_append,<-M];exact r
 ·have r:=L.out;rw[List.length_append,<-M];refine⟨r.1,?_⟩;rcases r.2 with z|⟨g,cap,am,G,z,X,Y⟩
  ·exact .inl z
  ·refine .inr ⟨g,cap,am,G,z,(Below.heap_setCell _ _ _ _ ?_).trans X,Y⟩;exact GM p.out L.out (by rw[G];rfl)
 ·have e1:(l.setCell ⟨a,0,none⟩ (.slice x (b.length+n4) y)).heap.size=l.heap.size:=by simp
  rw[e1];exact Nat.le_trans (Nat.le_trans j.out.2 m.out.size) B.out.size
 ·exact(iO.below m.out).trans ((iO.grown u.out B.out).trans (iO.jn p.out _))
end
end Go.Proofs.YtmnlkganmgcpbaaGreatDoor
