import Derived.Test.YtmnlkganmgcpbaaGreatDoorQe4
import Derived.Laws.IdiomStrings
import Derived.Laws.Tables
set_option maxRecDepth 100000
set_option maxHeartbeats 4000000
set_option linter.unusedVariables false
set_option linter.unusedSectionVars false
set_option linter.unusedSimpArgs false
namespace Go.Proofs.YtmnlkganmgcpbaaGreatDoor
section
open Go.RowKit Go.WideMaps Go.Maps
theorem zd {w:World} {b c:Nat} {e:TypeId} {sz:Nat} {v:Value} {k:Nat} {xs:List Value} (h:w.ownsRow b e sz v k xs) (hb:c<=b):w.ownsRow c e sz v k xs:=by
 refine⟨h.1,?_⟩;rcases h.2 with a|⟨g,cap,i,d,a,f⟩
 ·exact .inl a
 ·exact .inr ⟨g,cap,i,d,Nat.le_trans hb a,f⟩
theorem bT {w:World} {a:Nat} {e:TypeId} {sz:Nat} {v:Value} {k:Nat} {xs:List Value} (h:w.ownsRow a e sz v k xs):∃A c,v= .slice A k c:=by
 rcases h.2 with⟨rfl,rfl⟩|⟨g,cap,b,rfl,_⟩
 ·exact⟨_,_,rfl⟩
 ·exact⟨_,_,rfl⟩
def o7 (C C':Nat->Nat->Nat) (p:ByteArray) (at_:Nat):Prop:=
 (∀a m,a≠at_->C' a m=C a m)/\(∀m,m<5->∀b∈bF C' p at_ m 32,C' at_ m<=b.aG C')/\(∀m,m<5->C' at_ m=1073741824\/∃b∈bF C' p at_ m 32,b.aG C'=C' at_ m)
def kG (C:Nat->Nat->Nat) (p:ByteArray) (at_:Nat):Prop:=
 (∀m,m<5->∀a∈bF C p at_ m 32,C at_ m<=a.aG C)/\(∀m,m<5->C at_ m=1073741824\/∃a∈bF C p at_ m 32,a.aG C=C at_ m)
theorem o7.fix {C C':Nat->Nat->Nat} {p:ByteArray} {at_:Nat} (h:o7 C C' p at_):kG C' p at_:=h.2
def cB (C:Nat->Nat->Nat) (p:ByteArray) (at_ m:Nat):Option an:=(bF C p at_ m 32).find? (λa=>a.aG C==C at_ m)
theorem kG.congr {C C':Nat->Nat->Nat} {p:ByteArray} {at_:Nat} (h:∀a m,at_<=a->C' a m=C a m) (g:kG C p at_):kG C' p at_:=by
 have e:∀m,bF C' p at_ m 32=bF C p at_ m 32:=λm=>mH (λa m k=>h a m oO) 32;have i:∀m,∀b∈bF C p at_ m 32,b.aG C'=b.aG C:=λm b c=>by unfold an.aG;rw[h _ _ (vu 32 c)]
 refine⟨λm f b c=>?_,λm f=>?_⟩
 ·rw[e m]at c;rw[i m b c,h _ _ (Nat.le_refl _)];exact g.1 m f b c
 ·rw[h _ _ (Nat.le_refl _),e m];rcases g.2 m f with d|⟨b,d,j⟩
  ·exact .inl d
  ·exact .inr ⟨b,d,by rw[i m b d];exact j⟩
theorem find_congr {l:List an} {q b:an->Bool} (h:∀a∈l,q a=b a):l.find? q=l.find? b:=by
 induction l with
 |nil=>rfl
 |cons x l c=>
  rw[List.find?_cons,List.find?_cons,h x (List.mem_cons_self ..),c (λa d=>h a (List.mem_cons_of_mem _ d))]
theorem cB.congr {C C':Nat->Nat->Nat} {p:ByteArray} {at_:Nat} (h:∀a m,at_<=a->C' a m=C a m) (m:Nat):cB C' p at_ m=cB C p at_ m:=by
 unfold cB;rw[mH (C:=C') (C':=C) (λa m d=>h a m oO) 32];refine find_congr λc b=>?_;unfold an.aG;rw[h _ _ (vu 32 b),h _ _ (Nat.le_refl _)]
theorem wg {L:List an} {C:Nat->Nat->Nat} {x j:Nat} {b:an} (h:∀a,a<j->∀b,L[a]?=some b->x<=b.aG C) (e:L[j]?=some b) (f:x<=b.aG C):∀a,a<j+1->∀b,L[a]?=some b->x<=b.aG C:=by
 intro a i g c;rcases Nat.lt_or_ge a j with d|d
 ·exact h a d g c
 ·obtain rfl:a=j:=oO;rw[e]at c;injection c with c;rw[<-c];exact f
theorem Dh {l:List an} {q:an->Bool}:∀{j:Nat} {a:an},(∀b,b<j->∀c,l[b]?=some c->q c=false)->l[j]?=some a->q a=true->l.find? q=some a:=by
 induction l with
 |nil=>intro j a _ h;simp at h
 |cons x l e=>
  intro j a h d hq;cases j with
  |zero=>
   simp only[List.getElem?_cons_zero,Option.some.injEq]at d;subst d;rw[List.find?_cons_of_pos hq]
  |succ j=>
   have f:q x=false:=h 0 (Nat.succ_pos _) x rfl;rw[List.find?_cons_of_neg (by rw[f];simp)];exact e (λb g c i=>h (b+1) (Nat.succ_lt_succ g) c (by simpa using i)) (by simpa using d) hq
theorem Eu {l:List an} {q:an->Bool} (h:∀a,a<l.length->∀b,l[a]?=some b->q b=false):l.find? q=none:=by
 rw[List.find?_eq_none];intro d f;obtain⟨j,c,e⟩:=List.getElem_of_mem f;rw[h j c d (by rw[List.getElem?_eq_getElem c,e])];simp
def TT (C:Nat->Nat->Nat) (p:ByteArray) (at_:Nat) (b:Nat->Nat->Option an) (i:Nat):Nat->Nat->Option an:=λa m=>if a=at_ then(if m<i then cB C p at_ m else none)else b a m
theorem TT.zero {C:Nat->Nat->Nat} {p:ByteArray} {at_:Nat} {b:Nat->Nat->Option an} {a m:Nat} {c:an} (h:TT C p at_ b 0 a m=some c):b a m=some c:=by
 unfold TT at h;by_cases e:a=at_
 ·rw[if_pos e,if_neg oO]at h;cases h
 ·rwa[if_neg e]at h
theorem TT.none_ {C:Nat->Nat->Nat} {p:ByteArray} {at_ i:Nat} {b:Nat->Nat->Option an} (hn:cB C p at_ i=none) {a m:Nat} {c:an} (h:TT C p at_ b (i+1) a m=some c):TT C p at_ b i a m=some c:=by
 unfold TT at h⊢;by_cases e:a=at_
 ·rw[if_pos e]at h⊢;by_cases e2:m<i
  ·rw[if_pos oO]at h;rw[if_pos e2];exact h
  ·by_cases e3:m<i+1
   ·rw[if_pos e3]at h;obtain rfl:m=i:=oO;rw[hn]at h;cases h
   ·rw[if_neg e3]at h;cases h
 ·rw[if_neg e]at h⊢;exact h
theorem TT.some_ {C:Nat->Nat->Nat} {p:ByteArray} {at_ i:Nat} {c:Nat->Nat->Option an} {x:an} (hn:cB C p at_ i=some x) {a m:Nat} {d:an} (h:TT C p at_ c (i+1) a m=some d):tC (TT C p at_ c i) at_ i x a m=some d:=by
 unfold tC;by_cases b:a=at_/\m=i
 ·rw[if_pos b];unfold TT at h;rw[if_pos b.1,if_pos oO,b.2,hn]at h;exact h
 ·rw[if_neg b];unfold TT at h⊢;by_cases e:a=at_
  ·rw[if_pos e]at h⊢;by_cases e2:m<i
   ·rw[if_pos oO]at h;rw[if_pos e2];exact h
   ·rw[if_neg oO]at h;cases h
  ·rw[if_neg e]at h⊢;exact h
theorem QS.th {w wr:World} {n ob base e f cap hb:Nat} {p:ByteArray} {C:Nat->Nat->Nat} {g:List Value} {L:Nat->List an} {b j k:Nat} {c i:Nat->Nat->Option an} (h:QS w wr n ob base e f cap hb p C g L b j c)
 (hc:j<=k) (l:∀a m d,a<=4096->m<5->i a m=some d->c a m=some d):QS w wr n ob base e f cap hb p C g L b k i:=
 ⟨h.B,h.S,h.A,h.F,h.V,h.M.th hc l,h.l5,h.n1,h.n2,h.n3,h.n4⟩
theorem Bd {c:Array Oper} {S:World->Prop} {K:Act->World->Prop} {r:List (Bool×Nat×Oper)} {k:Nat} {b:Oper} {a:Act} {W:World} {hb d:Nat} {e:Nat->Nat->Option an} (h:cU W hb d e)
 (u:Region.wanted b (yielded c a.tmps)=true) (m x v:Operand) (f:b.op= .mapUpdate 173 m x v) (g:a.eval m= .map (some hb)) (at_ i:Nat) (j:a.eval x= .agg #[.int .i64 (at_:Int),.int .i64 (i:Int)]) (y:an) (l:a.eval v=y.val)
 (n:at_<=4096) (o:i<5) (hc:d<maxLen)
 (p:∀w',cU w' hb (d+1) (tC e at_ i y)->W.grownBy w' (some hb)->S w'/\bG Tryz.prog c S K r (a.put b.dst undef) w'):bG Tryz.prog c S K ((true,k,b)::r) a W:=by
 obtain⟨w',w,q,s⟩:=h.put at_ i y n o hc;have t:=p w' q s;refine .inl ⟨u,?_⟩;unfold execOp;simp only[f,g,j,l,w,Sem.run_bind,Sem.run_pure,Result.andThen_ok];exact t
theorem DH (at_:Nat) (w:World) (n o l cap hb B:Nat) (p:ByteArray) (C:Nat->Nat->Nat) (D:Nat->Nat->Option an) (al:SQ w o l cap hb p C) (ch:cU w hb B D) (ci:at_<p.size) (hn:n<=o/\n<=l/\n<=hb) (f7:B<=30000):
 Calls Tryz.prog 130 #[.pointer (some ⟨o,0,none⟩),.int .i64 (at_:Int)] w
  λe w'=>e= .returned (.tuple #[])/\∃C',SQ w' o l cap hb p C'/\o7 C C' p at_/\cU w' hb (B+5) (λa m=>if a=at_ then cB C' p at_ m else D a m)/\Below n w w':=by
 have ed:=al.S.hp;have f2:at_<=4096:=oO;have f3:(at_:Int)<(p.size:Int)+1:=oO;have f8:=al.S.hc;obtain⟨L,dn⟩:∃L:Nat->List an,L=λm=>bF C p at_ m 32:=⟨_,rfl⟩;have b2:=Lib.hid dn;have cs:Hid (∀C',(∀a m,a≠at_->C' a m=C a m)->∀m,bF C' p at_ m 32=L m):=by
  show∀C',_;intro C' h m;rw[b2.out];exact mH (λa m ci=>h a m oO) 32
 have d5:Hid (∀m,m<5->∀b∈L m,okO p b):=by
  show∀m,_;intro m M b s;rw[b2.out]at s;exact pg ci ed M 32 s
 have cv:Hid (QS w (w.alloc (.cells #[.slice none 0 0,.slice none 0 0,.slice none 0 0,.slice none 0 0,.slice none 0 0] 219)) n w.heap.size (w.heap.size+1) o l cap hb p C [.slice none 0 0,.slice none 0 0,.slice none 0 0,.slice none 0 0,.slice none 0 0] L 0 B D):=
  ⟨(ar _ _).mono (by have:=al.S.lt;omega),al.below (ar _ _),ai.new _ #[.slice none 0 0,.slice none 0 0,.slice none 0 0,.slice none 0 0,.slice none 0 0] _ _ rfl,FZ.new _ _ _ _ _ rfl,λi ds=>by omega,ch.below (ar _ _),rfl,hn,⟨al.S.lt,al.S.cl,ch.lt⟩,by omega,by simp⟩
 clear al ch dn hn;go_enter Tryz.func130,Tryz.ntmps130;go_wp2_with((with_reducible show wpList _ _ _ (⟨_,Op.alloc 219,_,_,_,_⟩::_) _ _);refine aU rfl 219 rfl _ GI ?_)
 generalize w.alloc (.cells #[.slice none 0 0,.slice none 0 0,.slice none 0 0,.slice none 0 0,.slice none 0 0] 219)=w1 at*;obtain⟨ob,b6⟩:∃ob,ob=w.heap.size:=⟨_,rfl⟩;obtain⟨base,dm⟩:∃base,base=w.heap.size+1:=⟨_,rfl⟩;rw[<-dm,<-b6]at cv;rw[<-b6];have f4:=Lib.hid dm;have f5:=Lib.hid b6;clear b6 dm;go_loopw [16] (λE wr=>∃(r:Nat) (C':Nat->Nat->Nat) (t:List Value),r<=5/\E= .int .i64 r/\Hid (QS w wr n ob base o l cap hb p C' t L r B D)/\Hid (∀a m,a≠at_->C' a m=C a m)/\Hid (∀m,m<r->C' at_ m=1073741824)) (λE _=>5-(intOf E).toNat)
 case atStart=>exact⟨0,C,_,by omega,rfl,cv.out,λ_ _ _=>rfl,λm M=>by omega⟩
 case round=>
  clear cv;obtain⟨r,am,t,ef,rfl,f,G,b3⟩:=hrel;by_cases z:r<5
  ·have c1:=f.out.S.S.cc;have fx:=f.out.S.S.cz at_ r oO z;have f0:=f.out.S.F.2 (at_* 5+r) oO;have f6:(r:Int)<5:=oO;have cx:Hid (QS w (wr.setCell ⟨l,at_* 5+r,none⟩ (.int .i64 1073741824)) n ob base o l cap hb p (jh am at_ r 1073741824) t L r B D):=f.out.cost at_ r 1073741824 oO z (Nat.le_refl _);have ec:Hid (∀a m,a≠at_->jh am at_ r 1073741824 a m=C a m):=by
    show∀a m,_;intro a m h;rw[fZ _ _ _ _ _ _ (λe=>h e.1)];exact G.out a m h
   have et:Hid (∀m,m<r+1->jh am at_ r 1073741824 at_ m=1073741824):=by
    show∀m,_;intro m M;by_cases e:m=r
    ·subst e;exact il _ _ _ _
    ·rw[fZ _ _ _ _ _ _ (λh=>e h.2)];exact b3.out m oO
   clear f G b3;generalize jh am at_ r 1073741824=d at*;go_wp2_with(go_at_call 179;refine(By at_ r _ o l cap hb p d cx.out.S.S ci z).mono ?_;rintro e N ⟨v,rfl,s⟩;obtain⟨dx,dy,rfl⟩:=bT s.O;have b7:=Lib.hid (cx.out.below s.B);have eu:=Lib.hid s.O;have d0:=b7.out.F.2 r z;have b4:=b7.out.A.2 r (by rw[b7.out.l5];exact z);generalize t.getD r undef=f1 at*;clear s)
   have ex:Hid (QS w (N.setCell ⟨ob,r,none⟩ (.slice dx (bF d p at_ r 32).length dy)) n ob base o l cap hb p d (t.set r (.slice dx (bF d p at_ r 32).length dy)) L (r+1) B D):=by
    refine b7.out.slot _ z ?_;have K:=zd eu.out cx.out.n4;have eh:=cs.out d ec.out r;rw[<-eh];exact K
   exact⟨⟨r+1,d,_,by omega,by go_num,ex.out,ec.out,et.out⟩,by simp[intOf];omega⟩
  ·have bf:r=5:=oO;have d1:Hid (QS w wr n ob base o l cap hb p am t L 5 B D):=by rw[<-bf];exact f.out
   have d6:Hid (qG am L at_):=by
    show qG _ _ _;intro m M;exact .inl (b3.out m oO)
   clear f b3;go_wp2;clear z ef bf;go_loopw [6] (λap wr=>∃(x:Bool) (C':Nat->Nat->Nat),ap= .bool x/\Hid (QS w wr n ob base o l cap hb p C' t L 5 B D)/\Hid (∀a m,a≠at_->C' a m=C a m)/\Hid (qG C' L at_)/\Hid (x=false->∀m,m<5->∀b∈L m,C' at_ m<=b.aG C')) (λap wr=>2* kn wr l at_+lO ap)
   case atStart=>exact⟨true,am,rfl,d1.out,G.out,d6.out,λh=>by cases h⟩
   case round=>
    clear d1 d6 G;obtain⟨x,d,rfl,f,G,P,b8⟩:=hrel;cases x with
    |true=>
     clear b8;have ea:Hid (kn wr l at_=jc d at_):=f.out.S.S.sum at_ oO;obtain⟨a7,c2⟩:∃a7,a7=jc d at_:=⟨_,rfl⟩;rw[<-c2]at ea;have d7:=Lib.hid c2;clear c2;go_wp2_with((with_reducible show wpList _ _ _ (⟨_,Op.load 219 _,_,_,_,_⟩::_) _ _);refine aK rfl 219 _ rfl _ Tryz.underlying219 rfl ⟨ob,0,none⟩ t (by rw[f.out.l5];exact ES) rfl (bS f.out.A) ?_)
     obtain⟨a8,rfl⟩:∃a8:World,a8=wr:=⟨_,rfl⟩;go_loopw [6,37] (λap E wr=>∃(i:Nat) (x:Bool) (C':Nat->Nat->Nat),i<=5/\E= .int .i64 i/\ap= .bool x/\Hid (QS w wr n ob base o l cap hb p C' t L 5 B D)/\Hid (∀a m,a≠at_->C' a m=C a m)/\Hid (qG C' L at_)/\Hid (x=false->C'=d/\∀m,m<i->∀b∈L m,C' at_ m<=b.aG C')/\Hid (x=true->jc C' at_<a7)) (λ_ E _=>5-(intOf E).toNat)
     case atStart=>exact⟨0,false,d,by omega,rfl,rfl,f.out,G.out,P.out,λ_=>⟨rfl,λm M=>by omega⟩,λh=>by cases h⟩
     case round=>
      clear f G P;obtain⟨i,x,b5,ds,rfl,rfl,f,G,P,hF,Z⟩:=hrel;by_cases z:i<5
      ·obtain⟨A,c,a4,cg⟩:=f.out.row i z;have bv:t.toArray[i]?=some (.slice A (L i).length c):=by simpa using a4
       have c8:=Lib.hid a4;obtain⟨len,Y⟩:∃len,len=(L i).length:=⟨_,rfl⟩;have a5:=Lib.hid Y;have fr:len<=1024:=by rw[Y,b2.out];exact qb C p at_ i 32
       rw[<-Y]at bv;have fv:Hid (∀j,j<len->∃g,A=some ⟨g,0,none⟩/\∀b,(L i)[j]?=some b->∀k u,b.aC[k]?=some u->wr.cell? ⟨g,j* 7+k,none⟩=some u):=by
        show∀j,_;intro j ck;obtain⟨g,e,h⟩:=cg j (by rw[<-Y];exact ck);exact⟨g,e,h wr (Below.refl _ _)⟩
       clear cg a4 Y fv;go_wp2_with((with_reducible show wpList _ _ _ (⟨_,Op.index 219 _ _,_,_,_,_⟩::_) _ _);refine gD rfl 219 _ _ rfl 5 218 Tryz.underlying219 _ Tryz.underlying218 rfl x9 t.toArray .i64 i i rfl rfl rfl z _ bv ?_)
       go_loopw [6,43] (λap E wr=>∃(j:Nat) (x:Bool) (C':Nat->Nat->Nat),j<=len/\E= .int .i64 j/\ap= .bool x/\Hid (QS w wr n ob base o l cap hb p C' t L 5 B D)/\Hid (∀a m,a≠at_->C' a m=C a m)/\Hid (qG C' L at_)/\Hid (x=false->C'=d/\(∀m,m<i->∀b∈L m,C' at_ m<=b.aG C')/\∀F,F<j->∀b,(L i)[F]?=some b->C' at_ i<=b.aG C')/\Hid (x=true->jc C' at_<a7)) (λ_ E _=>len-(intOf E).toNat)
       case atStart=>exact⟨0,x,b5,Nat.zero_le _,rfl,rfl,f.out,G.out,P.out,λh=>⟨(hF.out h).1,(hF.out h).2,λF ej=>by omega⟩,Z.out⟩
       case round=>
        clear f G P hF Z;obtain⟨j,x,H,ck,rfl,rfl,f,G,P,hF,Z⟩:=hrel;by_cases bt:j<len
        ·obtain⟨A',c',a6,b1⟩:=f.out.row i z;rw[c8.out]at a6
         obtain⟨rfl,rfl⟩:A=A'/\c=c':=by
          have K:=Option.some.inj a6;injection K with co ek cp;exact⟨co,cp⟩
         obtain⟨g,rfl,bx⟩:=b1 j (by rw[<-a5.out];exact bt);obtain⟨b,s⟩:∃b,(L i)[j]?=some b:=⟨_,List.getElem?_eq_getElem (by rw[<-a5.out];exact bt)⟩;have d2:=Lib.hid s;have be:b∈L i:=List.mem_of_getElem? s;have O:Hid (okO p b):=d5.out i z b be;have el:=Lib.hid be;have b9:Hid (∀k u,b.aC[k]?=some u->wr.cell? ((⟨g,j* 7,none⟩:Addr).add k)=some u):=by
          show∀k,_;intro k u cq;rw[add_plain];exact bx wr (Below.refl _ _) b s k u cq
         have bi:Hid (∀W,af wr W->QS w W n ob base o l cap hb p H t L 5 B D):=λW Q=>f.out.below Q;clear a6 b1 s be bx f;obtain⟨S,bo⟩:∃S,S=b.aG H:=⟨_,rfl⟩;obtain⟨T,av⟩:∃T,T=H at_ i:=⟨_,rfl⟩;have U:=Lib.hid bo;have a0:=Lib.hid av;have ey:Hid (T<=1073741824):=by show _<=_;rw[av];exact(bi.out wr (Below.refl _ _)).S.S.b _ _
         have ez:(i:Int)<5:=oO;have fo:Hid (jc H at_<=a7):=by
          show _<=_;cases x with
          |true=>exact Nat.le_of_lt (Z.out rfl)
          |false=>rw[(hF.out rfl).1,<-d7.out];exact Nat.le_refl _
         clear bo av;by_cases a9:S<T
         ·clear hF Z
          go_wp2_with(first
           |((with_reducible show wpList _ _ _ (⟨_,Op.load 181 _,_,_,_,_⟩::_) _ _);first|refine aK rfl 181 _ rfl _ Tryz.underlying181 rfl ⟨g,j* 7,none⟩ b.aC dK rfl b9.out ?_|refine aK rfl 181 _ rfl _ Tryz.underlying181 rfl ⟨wr.heap.size,0,none⟩ b.aC dK rfl (mN _ b _ _ rfl) ?_)
           |((with_reducible show wpList _ _ _ (⟨_,Op.alloc 181,_,_,_,_⟩::_) _ _);refine aU rfl 181 rfl _ lA ?_)
           |((with_reducible show wpList _ _ _ (⟨_,Op.store 181 _ _,_,_,_,_⟩::_) _ _);refine bg rfl 181 _ _ rfl 181 _ b.aC rfl rfl dK rfl b.one ?_)
           |(go_at_call 180;refine(kg b _ o l cap hb p H (bi.out _ (ar _ _)).S.S O.out.1 O.out.2.1 O.out.2.2.1).mono ?_;rintro e N ⟨rfl,V⟩;have J:=Lib.hid (bi.out N ((ar _ _).trans (V.mono oS)));have d0:=J.out.S.S.cc;have b4:=J.out.S.S.cz at_ i oO z;have em:=J.out.S.F.2 (at_* 5+i) oO;rw[<-a0.out]at b4;rw[<-U.out];clear V))
          have ca:b.aG H<H at_ i:=by rw[<-U.out,<-a0.out];exact a9
          refine⟨⟨j+1,true,jh H at_ i S,by omega,by go_num,rfl,J.out.cost at_ i S oO z (by have:=ey.out;omega),?_,?_,λh=>(by cases h),λ_=>?_⟩,by simp[intOf];omega⟩
          ·show∀a m,_;intro a m h;rw[fZ _ _ _ _ _ _ (λe=>h e.1)];exact G.out a m h
          ·have:=P.out.Ki el.out ca;rw[<-U.out]at this;exact this
          ·have K:=za (C:=H) (a:=at_) z ca;rw[<-U.out]at K;exact Nat.lt_of_lt_of_le K fo.out
         ·go_wp2_with(first
           |((with_reducible show wpList _ _ _ (⟨_,Op.load 181 _,_,_,_,_⟩::_) _ _);first|refine aK rfl 181 _ rfl _ Tryz.underlying181 rfl ⟨g,j* 7,none⟩ b.aC dK rfl b9.out ?_|refine aK rfl 181 _ rfl _ Tryz.underlying181 rfl ⟨wr.heap.size,0,none⟩ b.aC dK rfl (mN _ b _ _ rfl) ?_)
           |((with_reducible show wpList _ _ _ (⟨_,Op.alloc 181,_,_,_,_⟩::_) _ _);refine aU rfl 181 rfl _ lA ?_)
           |((with_reducible show wpList _ _ _ (⟨_,Op.store 181 _ _,_,_,_,_⟩::_) _ _);refine bg rfl 181 _ _ rfl 181 _ b.aC rfl rfl dK rfl b.one ?_)
           |(go_at_call 180;refine(kg b _ o l cap hb p H (bi.out _ (ar _ _)).S.S O.out.1 O.out.2.1 O.out.2.2.1).mono ?_;rintro e N ⟨rfl,V⟩;have J:=Lib.hid (bi.out N ((ar _ _).trans (V.mono oS)));have d0:=J.out.S.S.cc;have b4:=J.out.S.S.cz at_ i oO z;have em:=J.out.S.F.2 (at_* 5+i) oO;rw[<-a0.out]at b4;rw[<-U.out];clear V))
          have ca:H at_ i<=b.aG H:=by rw[<-U.out,<-a0.out];omega
          exact⟨⟨j+1,x,H,by omega,by go_num,rfl,J.out,G.out,P.out,λh=>⟨(hF.out h).1,(hF.out h).2.1,wg (hF.out h).2.2 d2.out ca⟩,Z.out⟩,by simp[intOf];omega⟩
        ·have cb:j=len:=oO;have e0:Hid (x=false->H=d/\∀m,m<i+1->∀b∈L m,H at_ m<=b.aG H):=by
          show _->_;intro h;obtain⟨ac,cr,en⟩:=hF.out h;refine⟨ac,λm M b s=>?_⟩;rcases Nat.lt_or_ge m i with d3|d3
          ·exact cr m d3 b s
          ·obtain rfl:m=i:=oO;obtain⟨F,bq,e⟩:=List.getElem_of_mem s;exact en F (by rw[cb,a5.out];exact bq) b (by rw[List.getElem?_eq_getElem bq,e])
         clear hF;subst cb;go_wp2;exact⟨⟨i+1,x,H,by omega,by go_num,rfl,f.out,G.out,P.out,e0.out,Z.out⟩,by simp[intOf];omega⟩
      ·have bf:i=5:=oO;have e9:Hid (x=false->∀m,m<5->∀b∈L m,b5 at_ m<=b.aG b5):=λh m M=>(hF.out h).2 m oO;have fb:Hid (2* kn wr l at_+lO (.bool x)<2* a7+1):=by
        show _<_;rw[f.out.S.S.sum at_ oO];cases x with
        |true=>have:=Z.out rfl;show 2* _+1<_;omega
        |false=>rw[(hF.out rfl).1,<-d7.out];show 2* _+0<_;omega
       clear hF Z;go_wp2;refine⟨⟨x,b5,rfl,f.out,G.out,P.out,e9.out⟩,?_⟩;show 2* kn wr l at_+lO (.bool x)<2* kn a8 l at_+lO (.bool true);rw[ea.out];exact fb.out
    |false=>
     have bb:Hid (∀m,bF d p at_ m 32=L m):=cs.out d G.out;have d8:Hid (o7 C d p at_):=by
      refine⟨G.out,λm M b s=>b8.out rfl m M b (by rw[bb.out m]at s;exact s),λm M=>?_⟩;rcases P.out m M with ac|⟨b,ac,cr⟩
      ·exact .inl ac
      ·exact .inr ⟨b,by rw[bb.out m];exact ac,Nat.le_antisymm cr (b8.out rfl m M b ac)⟩
     have ce:Hid (QS w wr n ob base o l cap hb p d t L 5 (B+0) (TT d p at_ D 0)):=f.out.th oO (λa m b _ _ h=>TT.zero h);clear b8 f G P cs b2;go_wp2_with((with_reducible show wpList _ _ _ (⟨_,Op.load 219 _,_,_,_,_⟩::_) _ _);refine aK rfl 219 _ rfl _ Tryz.underlying219 rfl ⟨ob,0,none⟩ t (by rw[ce.out.l5];exact ES) rfl (bS ce.out.A) ?_)
     go_loopw [73] (λE wr=>∃(i:Nat),i<=5/\E= .int .i64 i/\Hid (QS w wr n ob base o l cap hb p d t L 5 (B+i) (TT d p at_ D i))) (λE _=>5-(intOf E).toNat)
     case atStart=>exact⟨0,by omega,rfl,ce.out⟩
     case round=>
      clear ce;obtain⟨i,ds,rfl,f⟩:=hrel;by_cases z:i<5
      ·obtain⟨A,c,a4,cg⟩:=f.out.row i z;have bv:t.toArray[i]?=some (.slice A (L i).length c):=by simpa using a4
       have c8:=Lib.hid a4;obtain⟨len,Y⟩:∃len,len=(L i).length:=⟨_,rfl⟩;have a5:=Lib.hid Y;have fr:len<=1024:=by rw[Y,<-bb.out i];exact qb d p at_ i 32
       rw[<-Y]at bv;clear cg a4 Y;go_wp2_with((with_reducible show wpList _ _ _ (⟨_,Op.index 219 _ _,_,_,_,_⟩::_) _ _);refine gD rfl 219 _ _ rfl 5 218 Tryz.underlying219 _ Tryz.underlying218 rfl x9 t.toArray .i64 i i rfl rfl rfl z _ bv ?_)
       obtain⟨a8,rfl⟩:∃a8:World,a8=wr:=⟨_,rfl⟩;go_loopw [79] (λE wr=>∃(j:Nat),j<=len/\E= .int .i64 j/\Hid (QS w wr n ob base o l cap hb p d t L 5 (B+i) (TT d p at_ D i))/\Hid (∀F,F<j->∀b,(L i)[F]?=some b->(b.aG d==d at_ i)=false)) (λE _=>len-(intOf E).toNat)
       case atStart=>exact⟨0,Nat.zero_le _,rfl,f.out,λF ej=>by omega⟩
       case round=>
        clear f;obtain⟨j,ck,rfl,f,hF⟩:=hrel;by_cases bt:j<len
        ·obtain⟨A',c',a6,b1⟩:=f.out.row i z;rw[c8.out]at a6
         obtain⟨rfl,rfl⟩:A=A'/\c=c':=by
          have K:=Option.some.inj a6;injection K with co ek cp;exact⟨co,cp⟩
         obtain⟨g,rfl,bx⟩:=b1 j (by rw[<-a5.out];exact bt);obtain⟨b,s⟩:∃b,(L i)[j]?=some b:=⟨_,List.getElem?_eq_getElem (by rw[<-a5.out];exact bt)⟩;have d2:=Lib.hid s;have be:b∈L i:=List.mem_of_getElem? s;have O:Hid (okO p b):=d5.out i z b be;have b9:Hid (∀k u,b.aC[k]?=some u->wr.cell? ((⟨g,j* 7,none⟩:Addr).add k)=some u):=by
          show∀k,_;intro k u cq;rw[add_plain];exact bx wr (Below.refl _ _) b s k u cq
         have c9:Hid ((b.aG d==d at_ i)=true->cB d p at_ i=some b):=by
          show _->_;intro h;unfold cB;rw[bb.out i];exact Dh hF.out s h
         have dl:Hid ((b.aG d==d at_ i)=false->∀F,F<j+1->∀b,(L i)[F]?=some b->(b.aG d==d at_ i)=false):=by
          show _->_;intro h F bq eq c3;rcases Nat.lt_or_ge F j with ac|ac
          ·exact hF.out F ac eq c3
          ·obtain rfl:F=j:=oO;rw[s]at c3;rw[<-Option.some.inj c3];exact h
         clear a6 b1 s be bx hF;have a1:Hid (QS w (wr.alloc (.cells b.aC.toArray 181)) n ob base o l cap hb p d t L 5 (B+i) (TT d p at_ D i)):=f.out.below (ar _ _);have bd:Hid (ai (wr.alloc (.cells b.aC.toArray 181)) wr.heap.size b.aC):=ai.new _ b.aC.toArray _ _ rfl;have fd:Hid (hb≠wr.heap.size):=by show _≠_;have:=f.out.M.lt;omega
         clear f
         go_wp2_with(first
          |((with_reducible show wpList _ _ _ (⟨_,Op.load 181 _,_,_,_,_⟩::_) _ _);refine aK rfl 181 _ rfl _ Tryz.underlying181 rfl ⟨g,j* 7,none⟩ b.aC dK rfl b9.out ?_)
          |((with_reducible show wpList _ _ _ (⟨_,Op.alloc 181,_,_,_,_⟩::_) _ _);refine aU rfl 181 rfl _ lA ?_)
          |((with_reducible show wpList _ _ _ (⟨_,Op.store 181 _ _,_,_,_,_⟩::_) _ _);refine bg rfl 181 _ _ rfl 181 _ b.aC rfl rfl dK rfl b.one ?_))
         generalize wr.alloc (.cells b.aC.toArray 181)=X at*;generalize wr.heap.size=a2 at*;obtain⟨T,av⟩:∃T,T=d at_ i:=⟨_,rfl⟩;have a0:=Lib.hid av;have ez:(i:Int)<5:=oO;have y:Hid (∀W,af X W->W.cell? ⟨o,481,none⟩=some (.slice (some ⟨l,0,none⟩) (p.size+1) cap)/\W.cell? ⟨l,at_* 5+i,none⟩=some (.int .i64 (T:Int))):=by
          show∀W,_;intro W Q;have K:=(a1.out.below Q).S.S;exact⟨K.cc,by rw[av];exact K.cz at_ i oO z⟩
         clear av;obtain⟨S,bo⟩:∃S,S=b.aG d:=⟨_,rfl⟩;have U:=Lib.hid bo;clear bo;by_cases a9:S=T
         ·have c4:=Lib.hid (c9.out (by rw[<-U.out,<-a0.out,a9];simp));have er:((S:Int)==(T:Int))=true:=by rw[beq_iff_eq];omega
          clear c9 dl a9;refine yO (af X) [1,2,4,5,6,7,8,9,10,11,12,0,3,0,13] (ak (Below.refl _ _)) ?_;refine zO y.out ?_;refine' zV rfl (λW Q=>ji 181 _ Tryz.underlying181 rfl rfl a2 b.aC dK rfl (bd.out.below Q)) ?_;refine zO y.out ?_;refine zO y.out ?_;refine zO y.out ?_;refine zO y.out ?_;refine zO y.out ?_;refine zO y.out ?_;refine zO y.out ?_;refine zO y.out ?_;refine zO y.out ?_;refine zZ ?_;refine(kg b _ o l cap hb p d (a1.out.below (ak (Below.refl _ _))).S.S O.out.1 O.out.2.1 O.out.2.2.1).mono ?_;rintro e N ⟨rfl,V⟩;rw[<-U.out];have ad:Hid (af X N):=(ak (Below.refl _ _)).trans V;clear V;refine⟨_,rfl,ad.out,jO ?_⟩;refine zO y.out ?_;refine ag ?_;have J:Hid (QS w N n ob base o l cap hb p d t L 5 (B+i) (TT d p at_ D i)):=a1.out.below ad.out;have bs:Hid (ai N a2 b.aC):=bd.out.below ad.out;clear a1 bd y ad;go_wp2;have a3:Hid (∀W,(W.cell? ⟨o,482,none⟩=some (.map (some hb))/\ai W a2 b.aC)->W.cell? ⟨o,482,none⟩=some (.map (some hb))):=λW Q=>Q.1;refine yO (λW=>W.cell? ⟨o,482,none⟩=some (.map (some hb))/\ai W a2 b.aC) [1,2,3,4,5,6,8,0,7,9] ⟨J.out.S.S.cm,bs.out.drew⟩ ?_;refine zO a3.out ?_;refine zO a3.out ?_;refine zO a3.out ?_;refine zO a3.out ?_;refine zO a3.out ?_;refine zO a3.out ?_;refine' zV rfl (λW Q=>ji 181 _ Tryz.underlying181 rfl rfl a2 b.aC dK rfl Q.2) ?_;refine' zQ (v:= .agg #[.int .i64 (at_:Int),.int .i64 (i:Int)]) (w':=N.drew) rfl (by go_simp) ⟨J.out.S.S.cm,bs.out.drew⟩ ?_;refine' Bd (J.out.below (ak (Below.refl _ _))).M rfl _ _ _ rfl rfl at_ i rfl b rfl oO z oM ?_;intro d4 d9 c5;have c6:Hid (QS w d4 n ob base o l cap hb p d t L 5 (B+i+1) (tC (TT d p at_ D i) at_ i b)):=(J.out.below (ak (Below.refl _ _))).put c5 d9;refine⟨⟨c6.out.S.S.cm,bs.out.drew.grown c5 (λq hq=>by injection hq with hq;rw[<-hq];exact fd.out)⟩,?_⟩;have c7:Hid (QS w d4 n ob base o l cap hb p d t L 5 (B+(i+1)) (TT d p at_ D (i+1))):=c6.out.th oO (λa m b _ _ h=>TT.some_ c4.out h);clear J bs c6 a3 d9 c5;simp only[Act.put];refine ag ?_;go_wp2;exact⟨⟨i+1,by omega,by go_num,c7.out⟩,by simp[intOf];omega⟩
         ·have c4:=Lib.hid (dl.out (by rw[<-U.out,<-a0.out,beq_eq_false_iff_ne];exact a9));have er:((S:Int)==(T:Int))=false:=by rw[beq_eq_false_iff_ne];omega
          clear c9 dl a9;refine yO (af X) [1,2,4,5,6,7,8,9,10,11,12,0,3,0,13] (ak (Below.refl _ _)) ?_;refine zO y.out ?_;refine' zV rfl (λW Q=>ji 181 _ Tryz.underlying181 rfl rfl a2 b.aC dK rfl (bd.out.below Q)) ?_;refine zO y.out ?_;refine zO y.out ?_;refine zO y.out ?_;refine zO y.out ?_;refine zO y.out ?_;refine zO y.out ?_;refine zO y.out ?_;refine zO y.out ?_;refine zO y.out ?_;refine zZ ?_;refine(kg b _ o l cap hb p d (a1.out.below (ak (Below.refl _ _))).S.S O.out.1 O.out.2.1 O.out.2.2.1).mono ?_;rintro e N ⟨rfl,V⟩;rw[<-U.out];have ad:Hid (af X N):=(ak (Below.refl _ _)).trans V;clear V;refine⟨_,rfl,ad.out,jO ?_⟩;refine zO y.out ?_;refine ag ?_;have J:Hid (QS w N n ob base o l cap hb p d t L 5 (B+i) (TT d p at_ D i)):=a1.out.below ad.out;have bs:Hid (ai N a2 b.aC):=bd.out.below ad.out;clear a1 bd y ad;go_wp2;exact⟨⟨j+1,by omega,by go_num,J.out,c4.out⟩,by simp[intOf];omega⟩
        ·have cb:j=len:=oO;have fn:Hid (cB d p at_ i=none):=by
          show _=_;unfold cB;rw[bb.out i];exact Eu (λF bq=>hF.out F (by rw[cb,a5.out];exact bq))
         have c7:Hid (QS w wr n ob base o l cap hb p d t L 5 (B+(i+1)) (TT d p at_ D (i+1))):=f.out.th oO (λa m b _ _ h=>TT.none_ fn.out h);clear f hF;go_wp2;exact⟨⟨i+1,by omega,by go_num,c7.out⟩,by simp[intOf];omega⟩
      ·have bf:i=5:=oO;have es:Hid (SQ wr o l cap hb p d/\o7 C d p at_/\cU wr hb (B+5) (λa m=>if a=at_ then cB d p at_ m else D a m)/\Below n w wr):=by
        have K:=f.out;rw[bf]at K;refine⟨K.S,d8.out,K.M.th (Nat.le_refl _) (λa m b _ M h=>?_),K.B⟩;unfold TT;by_cases e:a=at_
        ·rw[if_pos e]at h⊢;rw[if_pos M];exact h
        ·rw[if_neg e]at h⊢;exact h
       clear f d8 bb;go_wp2;refine bodyPost_end (results_none rfl _ _ _) rfl ?_;exact⟨rfl,d,es.out⟩
end
section
open Go.RowKit
section
variable {P : Program} {ops : Array Oper} {md : Region.Mode} {S : World → Prop}
def pf:List (Bool×Nat)->Array Bool->Array Bool
 |[],L=>L
 |(_,k)::r,L=>pf r (L.setIfInBounds k true)
def preOB (md:Region.Mode) (ops:Array Oper):List (Bool×Nat)->Array Bool->Bool
 |[],_=>true
 |(true,k)::r,L=>decide (Region.ready md ops L=[k])&&preOB md ops r (L.setIfInBounds k true)
 |(false,k)::r,L=>(Region.ready md ops L).contains k&&Region.free md ops L k&&preOB md ops r (L.setIfInBounds k true)
theorem mE {K K':Act->World->Prop} (d:Region.noSelect ops=true) (n:Nat):∀(l:List (Bool×Nat)) (L:Array Bool) (a:Act) (w:World),S w->preOB md ops l L=true->
 (∀a w,S w->K' a w->jG P md ops S K n (pf l L) a w)->vc P ops S K' l a w->jG P md ops S K (n+l.length) L a w
 |[],L,a,w,b,_,c,h=>c a w b h
 |(true,k)::r,L,a,w,b,hB,c,h=>by
  simp only[preOB,Bool.and_eq_true,decide_eq_true_eq]at hB;exact rq hB.1 (tE (λa' w' j f=>mE d n r _ a' w' j hB.2 c f) h)
 |(false,k)::r,L,a,w,b,hB,c,h=>by
  simp only[preOB,Bool.and_eq_true]at hB;obtain⟨m,e,v,g,i⟩:=h;exact q6 e (Region.noSelect_spec d) (n+r.length) L a w b (Region.free_spec e hB.1.2) (by simpa using hB.1.1) g (mE d n r _ _ w b hB.2 c i)
theorem kI {l:List Oper} {K:Act->World->Prop}:∀(e:List (Bool×Nat)) (L:Array Bool) (a:Act) (w:World),preOB md l.toArray e L=true->bG P l.toArray S K (attachW l e) a w->vc P l.toArray S K e a w
 |[],_,_,_,_,h=>h
 |(true,k)::r,L,a,w,hB,h=>by
  simp only[preOB,Bool.and_eq_true,decide_eq_true_eq]at hB;have c:k<l.toArray.size:=k6 (md:=md) (listed:=L) (by rw[hB.1];simp);have d:l[k]?=some l[k]:=List.getElem?_eq_getElem (by simpa using c);simp only[attachW,d]at h;refine⟨l[k],by simp,?_⟩;rcases h with h|h
  ·exact .inl ⟨h.1,kj (λv w' b=>⟨b.1,kI r _ _ _ hB.2 b.2⟩) h.2⟩
  ·exact .inr ⟨h.1,h.2.1,kI r _ _ _ hB.2 h.2.2⟩
 |(false,k)::r,L,a,w,hB,h=>by
  simp only[preOB,Bool.and_eq_true]at hB;have c:k<l.toArray.size:=k6 (md:=md) (listed:=L) (by simpa using hB.1.1);have d:l[k]?=some l[k]:=List.getElem?_eq_getElem (by simpa using c);simp only[attachW,d]at h;obtain⟨v,f,b⟩:=h;exact⟨l[k],by simp,v,f,kI r _ _ _ hB.2 b⟩
inductive OT where
 |last (l:List (Bool×Nat))
 |br (l:List (Bool×Nat)) (a:List Nat) (f:Nat->OT)
def treeB (md:Region.Mode) (ops:Array Oper):OT->Nat->Array Bool->Bool
 |.last l,n,L=>decide (n=l.length)&&preOB md ops l L&&(Region.ready md ops (pf l L)).isEmpty
 |.br l a f,n,L=>decide (l.length+1<=n)&&preOB md ops l L&&decide (Region.ready md ops (pf l L)=a)&&!a.isEmpty&&a.all λk=>treeB md ops (f k) (n-l.length-1) ((pf l L).setIfInBounds k true)
def wpTree (P:Program) (l:List Oper) (S:World->Prop) (K:Act->World->Prop):OT->Act->World->Prop
 |.last b=>bG P l.toArray S K (attachW l b)
 |.br b c f=>bG P l.toArray S (λa w=>∀k∈c,bG P l.toArray S (wpTree P l S K (f k)) (attachW l [(true,k)]) a w) (attachW l b)
theorem lH {l:List Oper} {K:Act->World->Prop} (j:Region.noSelect l.toArray=true):∀(o:OT) (n:Nat) (L:Array Bool) (a:Act) (w:World),S w->treeB md l.toArray o n L=true->wpTree P l S K o a w->jG P md l.toArray S K n L a w
 |.last b,n,L,a,w,d,hB,h=>by
  simp only[treeB,Bool.and_eq_true,decide_eq_true_eq]at hB;rw[hB.1.1,<-Nat.zero_add b.length];exact mE (K':=K) j 0 b L a w d hB.1.2 (λa w _ h=>⟨by simpa using hB.2,h⟩) (kI b L a w hB.1.2 h)
 |.br b y f,n,L,a,w,d,hB,h=>by
  simp only[treeB,Bool.and_eq_true,decide_eq_true_eq]at hB;obtain⟨⟨⟨⟨z,p⟩,k⟩,q⟩,s⟩:=hB;have e:n=(n-b.length-1+1)+b.length:=oO;rw[e];refine mE j (n-b.length-1+1) b L a w d p (λa w d h=>?_) (kI b L a w p h);refine⟨by rw[k];intro t;rw[t]at q;simp at q,λi g=>?_⟩;rw[k]at g;have u:i<l.toArray.size:=k6 (md:=md) (listed:=pf b L) (by rw[k];exact g);have x:l[i]?=some l[i]:=List.getElem?_eq_getElem (by simpa using u);have c:=h i g;simp only[attachW,x]at c;have r:=List.all_eq_true.1 s i g;refine⟨l[i],by simp,?_⟩;rcases c with c|c
  ·exact .inl ⟨c.1,kj (λv w' m=>⟨m.1,lH j (f i) _ _ _ _ m.1 r m.2⟩) c.2⟩
  ·exact .inr ⟨c.1,c.2.1,lH j (f i) _ _ _ _ c.2.1 r c.2.2⟩
theorem j7 {l:Array Oper} {K K':Act->World->Prop} (h:∀a w,K a w->K' a w):∀(r:List (Bool×Nat×Oper)) (a:Act) (w:World),bG P l S K r a w->bG P l S K' r a w
 |[],a,w,c=>h _ _ c
 |(true,_,e)::r,a,w,c=>by
  rcases c with b|b
  ·exact .inl ⟨b.1,kj (λv w' d=>⟨d.1,j7 h r _ _ d.2⟩) b.2⟩
  ·exact .inr ⟨b.1,b.2.1,j7 h r _ _ b.2.2⟩
 |(false,_,e)::r,a,w,c=>by
  obtain⟨v,b,d⟩:=c;exact⟨v,b,j7 h r _ _ d⟩
theorem si {l:List Oper} {K K':Act->World->Prop} (h:∀a w,K a w->K' a w):∀(c:OT) (a:Act) (w:World),wpTree P l S K c a w->wpTree P l S K' c a w
 |.last d,a,w,b=>j7 h _ _ _ b
 |.br d j f,a,w,b=>j7 (λa w e k g=>j7 (λa w i=>si h (f k) a w i) _ _ _ (e k g)) _ _ _ b
theorem so {id:Nat} {Q:Exit->Act->World->Prop} {a:Act} {w:World} {l:List Oper} (b:OT) (c:P.follows .mixedOrders=true) (hB:(Region.noSelect l.toArray&&treeB .any l.toArray b l.toArray.size (Array.replicate l.toArray.size false))=true)
 (d:S w.drew) (h:wpTree P l S (λa' W=>wpList P l.toArray Q [] a' W) b a w.drew):(Code.region id l.toArray true).wp P Q a w:=by
 simp only[Bool.and_eq_true]at hB;refine wp_region_any c ?_;exact mK (S:=S) _ _ _ _ (lH (K:=Q .normal) hB.1 b _ _ a w.drew d hB.2 h)
theorem kB {id:Nat} {Q:Exit->Act->World->Prop} {a:Act} {w:World} {l:List Oper} (b:OT) (c:Act->Act->World->Prop) (d:P.follows .mixedOrders=true) (hB:(Region.noSelect l.toArray&&treeB .any l.toArray b l.toArray.size (Array.replicate l.toArray.size false))=true)
 (e:S w.drew) (h:wpTree P l S (c a) b a w.drew) (f:∀a' W,c a a' W->wpList P l.toArray Q [] a' W):(Code.region id l.toArray true).wp P Q a w:=by
 simp only[Bool.and_eq_true]at hB;refine wp_region_any d ?_;exact mK (S:=S) _ _ _ _ (lH (K:=Q .normal) hB.1 b _ _ a w.drew e hB.2 (si (λa' W h=>f a' W h) b _ _ h))
end
end
section
open Go.RowKit Go.WideMaps Go.Maps
theorem rD (off:Nat):∀(a:List Value) (s:Nat) (cells:Array Value),((a.zipIdx s).foldl (λb (x:Value×Nat)=>b.setIfInBounds (off+x.2) x.1) cells).size=cells.size
 |[],_,_=>rfl
 |x::a,s,cells=>by
  rw[List.zipIdx_cons,List.foldl_cons,rD off a (s+1)];simp
theorem se (off:Nat):∀(a:List Value) (s:Nat) (cells:Array Value) (i:Nat),off+s+a.length<=cells.size->
 ((a.zipIdx s).foldl (λc (x:Value×Nat)=>c.setIfInBounds (off+x.2) x.1) cells)[i]?=if off+s<=i/\i<off+s+a.length then a[i-(off+s)]? else cells[i]?
 |[],s,cells,i,_=>by rw[if_neg (by simp only[List.length_nil];omega)];rfl
 |x::a,s,cells,i,h=>by
  rw[List.zipIdx_cons,List.foldl_cons,se off a (s+1) _ i (by simp only[List.length_cons]at h;simp;omega)];simp only[List.length_cons]at h⊢;by_cases d:i=off+s
  ·subst d;rw[if_neg oO,if_pos oO,Nat.sub_self,List.getElem?_cons_zero,Array.getElem?_setIfInBounds_self_of_lt oO]
  ·by_cases b:off+(s+1)<=i/\i<off+(s+1)+a.length
   ·rw[if_pos b,if_pos oO];rw[show i-(off+s)=(i-(off+(s+1)))+1 from by omega,List.getElem?_cons_succ]
   ·rw[if_neg b,if_neg oO];rw[Array.getElem?_setIfInBounds_ne oO]
def vR:Array Value:=(Value.string ByteArray.empty::cE.toList++[Value.slice none 0 0,Value.map none]).toArray
theorem zf:(Tryz.prog.info? 175).map (·.zero)=some (some (.agg vR)):=oK
theorem yz:vR.size=483:=oK
theorem Aa:(Tryz.prog.underlying 175).map (λd=>match d with|.struct a=>a.toList.mapM (λf=>(Tryz.prog.info? f.type).map λi=>(f.offset,i.size))|_=>none)=some (some [(0,1),(1,480),(481,1),(482,1)]):=oK
theorem tz (off:Nat) (Z:Array Value) (v:Value):Array.foldl (λa (x:Value×Nat)=>a.setIfInBounds (off+x.2) x.1) Z #[v].zipIdx=Z.setIfInBounds off v:=rfl
theorem gV (p:ByteArray) (s m:Value) (hs:s.cells=#[s]) (t:m.cells=#[m]):∃R:Array Value,Tryz.prog.built 175 [(0,.string p),(1,.agg gh),(2,s),(3,m)]=some R/\R.size=483/\R[0]?=some (.string p)/\(∀i v,gh[i]?=some v->R[1+i]?=some v)/\R[481]?=some s/\R[482]?=some m:=by
 have e:=zf;have f:=Aa;have l:=yz;have n:=BJ;generalize vR=Z at*;generalize gh=a at*;cases g:Tryz.prog.info? 175 with
 |none=>rw[g]at e;cases e
 |some u=>
  cases k:Tryz.prog.underlying 175 with
  |none=>rw[k]at f;cases f
  |some d=>
   rw[g]at e;rw[k]at f;have A:u.zero=some (.agg Z):=Option.some.inj e;have o:=Option.some.inj f;cases d<;>(try(simp at o;done))
   rename_i B
   simp only at o;unfold Program.built;rw[g,k];simp only[A,o];have w:(Value.string p).cells=#[.string p]:=rfl;have e1:(Value.agg a).cells=a:=rfl;have e2:(Value.agg Z).cells=Z:=rfl;have q:(Z.setIfInBounds 0 (.string p)).size=483:=by simp[l]
   have key:∀(Y:Array Value),Y.size=483->(a.zipIdx.foldl (λb (x:Value×Nat)=>b.setIfInBounds (1+x.2) x.1) Y).size=483/\∀i,(a.zipIdx.foldl (λb (x:Value×Nat)=>b.setIfInBounds (1+x.2) x.1) Y)[i]?=if 1<=i/\i<481 then a[i-1]? else Y[i]?:=by
    intro Y j;have hl:a.toList.length=480:=by rw[Array.length_toList];exact n
    have y:a.zipIdx.foldl (λb (x:Value×Nat)=>b.setIfInBounds (1+x.2) x.1) Y=(a.toList.zipIdx 0).foldl (λb (x:Value×Nat)=>b.setIfInBounds (1+x.2) x.1) Y:=by
     rw[<-Array.foldl_toList,Array.toList_zipIdx]
    rw[y];refine⟨by rw[rD];exact j,λi=>?_⟩;rw[se 1 a.toList 0 Y i (by rw[hl,j];omega),hl];simp only[Nat.add_zero,Array.getElem?_toList]
   have c:=key _ q;simp only[Instr.fill,List.getElem?_toArray,List.getElem?_cons_zero,List.getElem?_cons_succ,w,e1,e2,hs,t,List.size_toArray,List.length_cons,List.length_nil,n,l,ne_eq,not_true_eq_false,decide_false,Bool.false_or];rw[tz,tz,tz];obtain⟨Y,j⟩:∃Y,Y=Array.foldl (λb (x:Value×Nat)=>b.setIfInBounds (1+x.2) x.1) (Z.setIfInBounds 0 (.string p)) a.zipIdx:=⟨_,rfl⟩;rw[<-j]at c⊢;have z:(Y.setIfInBounds 481 s).size=483:=by simp[c.1]
   rw[if_neg oS,if_neg (by rw[q];simp),if_neg (by rw[c.1];simp),if_neg (by rw[z];simp)];refine⟨_,rfl,by simp[c.1],?_,λi v r=>?_,?_,?_⟩
   ·rw[Array.getElem?_setIfInBounds_ne oO,Array.getElem?_setIfInBounds_ne oO,c.2,if_neg oO];simp[l]
   ·have g:i<480:=by rw[<-n];exact(Array.getElem?_eq_some_iff.1 r).1
    rw[Array.getElem?_setIfInBounds_ne oO,Array.getElem?_setIfInBounds_ne oO,c.2,if_pos oO,Nat.add_sub_cancel_left];exact r
   ·rw[Array.getElem?_setIfInBounds_ne oO];simp[c.1]
   ·simp[c.1]
theorem uz {a:Act} {f:Oper} {W:World} {x:Operand} (g:f.op= .convert 22 9 x) {A:Option Addr} {n c:Nat} {l:List UInt8} (i:a.eval x= .slice A n c) (h:SR vU 0 W A n c l):
 (execOp a.eval f).run Tryz.prog W= .ok (.value (.string ⟨l.toArray⟩)) W:=by
 have hn:=h.hn;have k:(convert 22 9 (.slice A n c)).run Tryz.prog W= .ok (.string ⟨l.toArray⟩) W:=by
  rcases Nat.eq_zero_or_pos l.length with d|d
  ·have hl:l=[]:=List.eq_nil_of_length_eq_zero d;subst hl;rw[hn];cases A with
   |none=>rw[run_convert_bytes_string W _ _ 5 _ _ _ Tryz.underlying22 Tryz.underlying5 Tryz.underlying9];rfl
   |some e=>exact run_convert_bytes_back W _ _ 5 e c [] Tryz.underlying22 Tryz.underlying5 Tryz.underlying9 (λj b=>by simp at b)
  ·obtain⟨e,rfl,_,hc⟩:=h.rd d;rw[hn];exact run_convert_bytes_back W _ _ 5 e c l Tryz.underlying22 Tryz.underlying5 Tryz.underlying9 (λj b=>by rw[hc j b];simp[List.getD,b])
 unfold execOp;simp only[g,i,k,Sem.run_bind,Sem.run_pure,Result.andThen_ok]
def rU (W:World) (c n:Nat):Prop:=∃a b,W.heap[c]?=some (.cells a b (0,0))/\∀i,i<5* (n+1)->a[i]?=some (.int .i64 0)
theorem rU.below {W a:World} {b n:Nat} (h:rU W b n) (hb:Below W.heap.size W a):rU a b n:=by
 obtain⟨f,d,c,e⟩:=h;exact⟨f,d,(hb.block _ (aw c)).trans c,e⟩
theorem JJ:(Tryz.prog.info? 131).map (λi=>(i.zero,i.size,i.bytes))=some (some (.agg #[.int .i64 0,.int .i64 0,.int .i64 0,.int .i64 0,.int .i64 0]),5,40):=oK
theorem D3 {a:Act} {b:Oper} {W:World} {l c:Operand} (g:b.op= .makeSlice 172 l c) (n:Nat) (hn:n<=4096) (hl:a.eval l= .int .i64 ((n+1:Nat):Int)) (hc:a.eval c= .int .i64 ((n+1:Nat):Int)):
 ∃d,(execOp a.eval b).run Tryz.prog W= .ok (.value (.slice (some ⟨W.heap.size,0,none⟩) (n+1) (n+1))) d/\rU d W.heap.size n/\Below W.heap.size W d:=by
 obtain⟨j,f,m,o,p⟩:=info_parts JJ;have e:=run_make (P:=Tryz.prog) W 172 131 j _ Tryz.underlying172 f m .i64 .i64 ((n+1:Nat):Int) ((n+1:Nat):Int) oO (Int.le_refl _) (by rw[p];omega) oO;simp only[Int.toNat_natCast]at e;rw[o]at e;have q:(execOp a.eval b).run Tryz.prog W= .ok (.value (.slice (some ⟨W.heap.size,0,none⟩) (n+1) (n+1))) (W.alloc (.cells (madeCells #[Value.int .i64 0,.int .i64 0,.int .i64 0,.int .i64 0,.int .i64 0] ((n+1)* 5)) 131)):=by
  unfold execOp;simp only[g,hl,hc,e,Sem.run_bind,Sem.run_pure,Result.andThen_ok];rfl
 refine⟨_,q,⟨_,_,heap_alloc_new W _,λi f=>?_⟩,ar _ _⟩;unfold madeCells;rw[Array.getElem?_map,Array.getElem?_range,if_pos oO];have k:i%5=0\/i%5=1\/i%5=2\/i%5=3\/i%5=4:=oO;show some (#[Value.int .i64 0,.int .i64 0,.int .i64 0,.int .i64 0,.int .i64 0][i%5]!)=_;rcases k with h|h|h|h|h<;>rw[h]<;>rfl
theorem DU {a:Act} {b:Oper} {W:World} (c:b.op= .makeMap 173 none):
 (execOp a.eval b).run Tryz.prog W= .ok (.value (.map (some W.heap.size))) (W.alloc (.map #[] 0))/\cU (W.alloc (.map #[] 0)) W.heap.size 0 (λ_ _=>none):=by
 refine⟨?_,.map [],Maps.isMap_empty,World.ownsMap_made _ _ _ _,λa m b _ _ h=>by cases h⟩;unfold execOp;simp only[c,Sem.run_bind,Sem.run_pure];rfl
theorem iJ {a:Act} {d:Oper} {W:World} {x0 e f g:Operand} (i:d.op= .build 175 #[(0,x0),(1,e),(2,f),(3,g)]) {p:ByteArray} {A:Option Addr} {n c:Nat} {b:Option Nat}
 (j:a.eval x0= .string p) (k:a.eval e= .agg gh) (l:a.eval f= .slice A n c) (m:a.eval g= .map b) (R:Array Value) (o:Tryz.prog.built 175 [(0,.string p),(1,.agg gh),(2,.slice A n c),(3,.map b)]=some R):
 (execOp a.eval d).run Tryz.prog W= .ok (.value (.agg R)) W:=by
 have q:=run_build (P:=Tryz.prog) W 175 #[(0,.string p),(1,.agg gh),(2,.slice A n c),(3,.map b)] R o;unfold execOp;simp only[i,List.map_toArray,List.map_cons,List.map_nil,j,k,l,m,q,Sem.run_bind,Sem.run_pure,Result.andThen_ok]
theorem j5 {a:Act} {b:Oper} {W:World} {x:Operand} (c:b.op= .box 175 x) {R:Array Value} (d:a.eval x= .agg R):
 (execOp a.eval b).run Tryz.prog W= .ok (.value (.pointer (some ⟨W.heap.size,0,none⟩))) (W.alloc (.cells R 175)):=by
 unfold execOp;simp only[c,d,Instr.box,newVar,newRow,Value.cells,Sem.run_bind,Sem.run_pure];rfl
theorem SQ.made {X:World} {p:ByteArray} {b hb n:Nat} {R:Array Value} (k:rU X b n) (c:cU X hb 0 (λ_ _=>none)) (hn:n=p.size) (l:p.size<=4096)
 (o:R[0]?=some (.string p)) (q:∀i v,gh[i]?=some v->R[1+i]?=some v) (r:R[481]?=some (.slice (some ⟨b,0,none⟩) (n+1) (n+1))) (s:R[482]?=some (.map (some hb))):
 SQ (X.alloc (.cells R 175)) X.heap.size b (n+1) hb p (λ_ _=>0)/\cU (X.alloc (.cells R 175)) hb 0 (λ_ _=>none):=by
 have w:cU (X.alloc (.cells R 175)) hb 0 (λ_ _=>none):=c.below (ar _ _);obtain⟨x,j,d,t⟩:=k;have y:b<X.heap.size:=aw d;have g:(X.alloc (.cells R 175)).heap[b]?=some (.cells x j (0,0)):=(Below.heap_alloc X _ _ y).trans d;have hs:∀i,(X.alloc (.cells R 175)).cell? ⟨X.heap.size,i,none⟩=R[i]?:=λi=>World.cell?_alloc_at _ _ _ _ rfl;have z:hb≠b:=by
  intro e;obtain⟨D,_,⟨A,clock,f,_⟩,_⟩:=c;rw[e,d]at f;cases f
 refine⟨⟨⟨by simp,by rw[hs];exact o,λi v u=>by rw[hs];exact q i v u,by rw[hs,<-hn];exact r,by rw[hs];exact s,by simp;omega,λa m B C=>?_,by omega,l,λ_ _=>Nat.zero_le _⟩,⟨by simp;omega,λi E=>frozen_of_row _ _ _ _ _ g⟩,by omega,by have:=c.lt;omega,z⟩,w⟩;rw[cell_of_row _ _ _ _ _ _ g];exact t _ oO
theorem kF {e:Array Oper} {S:World->Prop} {K:Act->World->Prop} {r:List (Bool×Nat×Oper)} {k:Nat} {d:Oper} {a:Act} {W:World} {l c:Operand} (m:Region.wanted d (yielded e a.tmps)=true) (j:d.op= .makeSlice 172 l c) (n:Nat) (hn:n<=4096) (hl:a.eval l= .int .i64 ((n+1:Nat):Int)) (hc:a.eval c= .int .i64 ((n+1:Nat):Int))
 (f:∀b,rU b W.heap.size n->Below W.heap.size W b->S b/\bG Tryz.prog e S K r (a.put d.dst (.slice (some ⟨W.heap.size,0,none⟩) (n+1) (n+1))) b):bG Tryz.prog e S K ((true,k,d)::r) a W:=by
 obtain⟨b,o,g,i⟩:=D3 (a:=a) j n hn hl hc;exact ie m o (f b g i).1 (f b g i).2
theorem kr {d:Array Oper} {S:World->Prop} {K:Act->World->Prop} {r:List (Bool×Nat×Oper)} {k:Nat} {b:Oper} {a:Act} {W:World} (i:Region.wanted b (yielded d a.tmps)=true) (g:b.op= .makeMap 173 none)
 (e:∀c,cU c W.heap.size 0 (λ_ _=>none)->Below W.heap.size W c->S c/\bG Tryz.prog d S K r (a.put b.dst (.map (some W.heap.size))) c):bG Tryz.prog d S K ((true,k,b)::r) a W:=by
 obtain⟨j,f⟩:=DU (a:=a) (W:=W) g;exact ie i j (e _ f (ar _ _)).1 (e _ f (ar _ _)).2
theorem DM {p:ByteArray} {l:List UInt8} (d:p=⟨l.toArray⟩) {a:Act} {b:Oper} {W:World} {x:Operand} (e:b.op= .convert 22 9 x) {A:Option Addr} {n c:Nat} (f:a.eval x= .slice A n c) (h:SR vU 0 W A n c l):
 (execOp a.eval b).run Tryz.prog W= .ok (.value (.string p)) W:=by
 subst d;exact uz e f h
def KZ (w:World) (p:ByteArray) (A:Option Addr) (n c:Nat) (a a':Act) (W:World):Prop:=∃(b d hb:Nat) (R:Array Value),
 a'=⟨#[.slice A n c,undef,.pointer none,.int .i64 (n:Int),.pointer (some ⟨b,0,none⟩),undef,.slice A n c,.int .i64 (n:Int),.slice A n c,.string p,.agg gh,.int .i64 (n:Int),.int .i64 ((n+1:Nat):Int),.slice (some ⟨d,0,none⟩) (n+1) (n+1),.map (some hb),.agg R,.pointer (some ⟨b,0,none⟩),undef,undef,undef,undef,undef,undef,undef,undef,undef,undef],[]⟩/\
 SQ W b d (n+1) hb p (λ_ _=>0)/\cU W hb 0 (λ_ _=>none)/\Below w.heap.size w W/\w.heap.size<=b/\w.heap.size<=d/\w.heap.size<=hb
theorem xo (A:Option Addr) (n c:Nat) (l:List UInt8) (w:World) (hb:SR vU 0 w A n c l) (hn:n<=4096):
 Calls Tryz.prog 80 #[.slice A n c] w λe w'=>∃v y cap hb C u,e= .returned (.pointer (some ⟨v,0,none⟩))/\SQ w' v y cap hb ⟨l.toArray⟩ C/\cU w' hb (5* n) u/\
  (∀a,a<n->kG C ⟨l.toArray⟩ a/\∀m,u a m=cB C ⟨l.toArray⟩ a m)/\(∀a m,n<=a->C a m=0)/\Below w.heap.size w w':=by
 obtain⟨p,L⟩:∃p:ByteArray,p=⟨l.toArray⟩:=⟨_,rfl⟩;have bf:n=p.size:=by rw[hb.hn,L];show l.length=l.toArray.size;simp
 have a0:p.size<=4096:=oO;rw[<-L];have dx:=Lib.hid L;have c9:=Lib.hid hb;have e0:IntKind.i64.wrap ((n:Int)+1)=((n+1:Nat):Int):=by rw[aJ _ oO oO];omega
 have o:=Lib.hid bf;have q:=Lib.hid a0;clear hb L bf a0;go_enter Tryz.func80,Tryz.ntmps80;go_wp2;have x:Hid (af w w.drew):=ak (Below.refl _ _);refine kB (S:=af w) (.br [(false,0),(false,1),(false,3),(false,4)] [2,5,6] (λk=>if k=2 then .br [] [5,6] (λk=>if k=5 then .last [(true,6),(false,7),(true,8),(false,9)]else .last [(true,5),(false,7),(true,8),(false,9)])else if k=5 then .br [] [2,6] (λk=>if k=2 then .last [(true,6),(false,7),(true,8),(false,9)]else .last [(true,2),(false,7),(true,8),(false,9)])else .br [] [2,5] (λk=>if k=2 then .last [(true,5),(false,7),(true,8),(false,9)]else .last [(true,2),(false,7),(true,8),(false,9)]))) (KZ w p A n c) oK oK x.out ?_ ?_
 ·simp only[wpTree,attachW,List.getElem?_cons_zero,List.getElem?_cons_succ];refine zU ?_;refine' zV rfl (λW s=>DM dx.out rfl rfl (c9.out.below s)) ?_;refine zU ?_;refine zU ?_;refine ag ?_;intro k r;simp only[List.mem_cons,List.not_mem_nil,or_false]at r;rcases r with rfl|rfl|rfl
  ·simp only[reduceIte,Nat.reduceEqDiff,wpTree,attachW,List.getElem?_cons_zero,List.getElem?_cons_succ];refine zZ ?_;refine(lZ _).mono ?_;rintro e X ⟨rfl,dy⟩;have F:Hid (af w X):=ab x.out dy;refine⟨_,rfl,F.out,jO ?_⟩;refine ag ?_
   (try simp only[reduceIte,Nat.reduceEqDiff,wpTree,attachW,List.getElem?_cons_zero,List.getElem?_cons_succ])
   refine ag ?_;intro k r;simp only[List.mem_cons,List.not_mem_nil,or_false]at r;rcases r with rfl|rfl
   ·simp only[reduceIte,wpTree,attachW,List.getElem?_cons_zero,List.getElem?_cons_succ];refine' kF rfl rfl n hn rfl rfl ?_;intro a1 d0 d1;have ac:Hid (af w a1):=ab F.out d1;have d2:=Lib.hid d0;refine⟨ac.out,?_⟩;simp only[yQ,yU,yX,yY];refine ag ?_
    (try simp only[reduceIte,Nat.reduceEqDiff,wpTree,attachW,List.getElem?_cons_zero,List.getElem?_cons_succ])
    refine' kr rfl rfl ?_;intro a2 d3 bi;have M:Hid (af w a2):=ab ac.out bi;have bo:=Lib.hid (d2.out.below bi);have bq:=Lib.hid d3;refine⟨M.out,?_⟩;simp only[yQ,yU,yX,yY];obtain⟨R,t,G,b,d,f,g⟩:=gV p (.slice (some ⟨_,0,none⟩) (n+1) (n+1)) (.map (some _)) rfl rfl;refine' zV rfl (λW s=>iJ rfl rfl rfl rfl rfl R t) ?_;refine' zQ rfl (j5 rfl rfl) (ae M.out _) ?_;refine zU ?_;refine ag ?_;exact⟨a2.heap.size,X.heap.size,a1.heap.size,R,rfl,(SQ.made bo.out bq.out o.out q.out b d f g).1,(SQ.made bo.out bq.out o.out q.out b d f g).2,ae M.out _,M.out.size,F.out.size,ac.out.size⟩
   ·simp only[reduceIte,Nat.reduceEqDiff,wpTree,attachW,List.getElem?_cons_zero,List.getElem?_cons_succ];refine' kr rfl rfl ?_;intro a3 d4 d5;have ad:Hid (af w a3):=ab F.out d5;have d6:=Lib.hid d4;refine⟨ad.out,?_⟩;simp only[yQ,yU,yX,yY];refine ag ?_
    (try simp only[reduceIte,Nat.reduceEqDiff,wpTree,attachW,List.getElem?_cons_zero,List.getElem?_cons_succ])
    refine' kF rfl rfl n hn rfl rfl ?_;intro a4 d7 bs;have N:Hid (af w a4):=ab ad.out bs;have bt:=Lib.hid (d6.out.below bs);have bv:=Lib.hid d7;refine⟨N.out,?_⟩;simp only[yQ,yU,yX,yY];obtain⟨R,t,G,b,d,f,g⟩:=gV p (.slice (some ⟨_,0,none⟩) (n+1) (n+1)) (.map (some _)) rfl rfl;refine' zV rfl (λW s=>iJ rfl rfl rfl rfl rfl R t) ?_;refine' zQ rfl (j5 rfl rfl) (ae N.out _) ?_;refine zU ?_;refine ag ?_;exact⟨a4.heap.size,a3.heap.size,X.heap.size,R,rfl,(SQ.made bv.out bt.out o.out q.out b d f g).1,(SQ.made bv.out bt.out o.out q.out b d f g).2,ae N.out _,N.out.size,ad.out.size,F.out.size⟩
  ·simp only[reduceIte,Nat.reduceEqDiff,wpTree,attachW,List.getElem?_cons_zero,List.getElem?_cons_succ];refine' kF rfl rfl n hn rfl rfl ?_;intro a5 d8 O;have D:Hid (af w a5):=ab x.out O;have bx:=Lib.hid d8;refine⟨D.out,?_⟩;simp only[yQ,yU,yX,yY];refine ag ?_
   (try simp only[reduceIte,Nat.reduceEqDiff,wpTree,attachW,List.getElem?_cons_zero,List.getElem?_cons_succ])
   refine ag ?_;intro k r;simp only[List.mem_cons,List.not_mem_nil,or_false]at r;rcases r with rfl|rfl
   ·simp only[reduceIte,wpTree,attachW,List.getElem?_cons_zero,List.getElem?_cons_succ];refine zZ ?_;refine(lZ _).mono ?_;rintro e a6 ⟨rfl,b1⟩;have al:Hid (af w a6):=ab D.out b1;have d9:=Lib.hid (bx.out.below b1);refine⟨_,rfl,al.out,jO ?_⟩;refine ag ?_
    (try simp only[reduceIte,Nat.reduceEqDiff,wpTree,attachW,List.getElem?_cons_zero,List.getElem?_cons_succ])
    refine' kr rfl rfl ?_;intro a7 ea b2;have P:Hid (af w a7):=ab al.out b2;have b3:=Lib.hid (d9.out.below b2);have b4:=Lib.hid ea;refine⟨P.out,?_⟩;simp only[yQ,yU,yX,yY];obtain⟨R,t,G,b,d,f,g⟩:=gV p (.slice (some ⟨_,0,none⟩) (n+1) (n+1)) (.map (some _)) rfl rfl;refine' zV rfl (λW s=>iJ rfl rfl rfl rfl rfl R t) ?_;refine' zQ rfl (j5 rfl rfl) (ae P.out _) ?_;refine zU ?_;refine ag ?_;exact⟨a7.heap.size,w.drew.heap.size,a6.heap.size,R,rfl,(SQ.made b3.out b4.out o.out q.out b d f g).1,(SQ.made b3.out b4.out o.out q.out b d f g).2,ae P.out _,P.out.size,x.out.size,al.out.size⟩
   ·simp only[reduceIte,Nat.reduceEqDiff,wpTree,attachW,List.getElem?_cons_zero,List.getElem?_cons_succ];refine' kr rfl rfl ?_;intro dl ec b5;have b6:Hid (af w dl):=ab D.out b5;have ed:=Lib.hid (bx.out.below b5);have ef:=Lib.hid ec;refine⟨b6.out,?_⟩;simp only[yQ,yU,yX,yY];refine ag ?_
    (try simp only[reduceIte,Nat.reduceEqDiff,wpTree,attachW,List.getElem?_cons_zero,List.getElem?_cons_succ])
    refine zZ ?_;refine(lZ _).mono ?_;rintro e b7 ⟨rfl,am⟩;have Q:Hid (af w b7):=ab b6.out am;have cp:=Lib.hid (ed.out.below am);have cq:=Lib.hid (ef.out.below am);refine⟨_,rfl,Q.out,jO ?_⟩;obtain⟨R,t,G,b,d,f,g⟩:=gV p (.slice (some ⟨_,0,none⟩) (n+1) (n+1)) (.map (some _)) rfl rfl;refine' zV rfl (λW s=>iJ rfl rfl rfl rfl rfl R t) ?_;refine' zQ rfl (j5 rfl rfl) (ae Q.out _) ?_;refine zU ?_;refine ag ?_;exact⟨b7.heap.size,w.drew.heap.size,a5.heap.size,R,rfl,(SQ.made cp.out cq.out o.out q.out b d f g).1,(SQ.made cp.out cq.out o.out q.out b d f g).2,ae Q.out _,Q.out.size,x.out.size,D.out.size⟩
  ·simp only[reduceIte,Nat.reduceEqDiff,wpTree,attachW,List.getElem?_cons_zero,List.getElem?_cons_succ];refine' kr rfl rfl ?_;intro b8 eq er;have T:Hid (af w b8):=ab x.out er;have cr:=Lib.hid eq;refine⟨T.out,?_⟩;simp only[yQ,yU,yX,yY];refine ag ?_
   (try simp only[reduceIte,Nat.reduceEqDiff,wpTree,attachW,List.getElem?_cons_zero,List.getElem?_cons_succ])
   refine ag ?_;intro k r;simp only[List.mem_cons,List.not_mem_nil,or_false]at r;rcases r with rfl|rfl
   ·simp only[reduceIte,wpTree,attachW,List.getElem?_cons_zero,List.getElem?_cons_succ];refine zZ ?_;refine(lZ _).mono ?_;rintro e b9 ⟨rfl,cs⟩;have ap:Hid (af w b9):=ab T.out cs;have es:=Lib.hid (cr.out.below cs);refine⟨_,rfl,ap.out,jO ?_⟩;refine ag ?_
    (try simp only[reduceIte,Nat.reduceEqDiff,wpTree,attachW,List.getElem?_cons_zero,List.getElem?_cons_succ])
    refine' kF rfl rfl n hn rfl rfl ?_;intro ca et cv;have U:Hid (af w ca):=ab ap.out cv;have cx:=Lib.hid (es.out.below cv);have c2:=Lib.hid et;refine⟨U.out,?_⟩;simp only[yQ,yU,yX,yY];obtain⟨R,t,G,b,d,f,g⟩:=gV p (.slice (some ⟨_,0,none⟩) (n+1) (n+1)) (.map (some _)) rfl rfl;refine' zV rfl (λW s=>iJ rfl rfl rfl rfl rfl R t) ?_;refine' zQ rfl (j5 rfl rfl) (ae U.out _) ?_;refine zU ?_;refine ag ?_;exact⟨ca.heap.size,b9.heap.size,w.drew.heap.size,R,rfl,(SQ.made c2.out cx.out o.out q.out b d f g).1,(SQ.made c2.out cx.out o.out q.out b d f g).2,ae U.out _,U.out.size,ap.out.size,x.out.size⟩
   ·simp only[reduceIte,Nat.reduceEqDiff,wpTree,attachW,List.getElem?_cons_zero,List.getElem?_cons_succ];refine' kF rfl rfl n hn rfl rfl ?_;intro eh eu c3;have c4:Hid (af w eh):=ab T.out c3;have ex:=Lib.hid (cr.out.below c3);have ey:=Lib.hid eu;refine⟨c4.out,?_⟩;simp only[yQ,yU,yX,yY];refine ag ?_
    (try simp only[reduceIte,Nat.reduceEqDiff,wpTree,attachW,List.getElem?_cons_zero,List.getElem?_cons_succ])
    refine zZ ?_;refine(lZ _).mono ?_;rintro e cb ⟨rfl,av⟩;have V:Hid (af w cb):=ab c4.out av;have c5:=Lib.hid (ey.out.below av);have c6:=Lib.hid (ex.out.below av);refine⟨_,rfl,V.out,jO ?_⟩;obtain⟨R,t,G,b,d,f,g⟩:=gV p (.slice (some ⟨_,0,none⟩) (n+1) (n+1)) (.map (some _)) rfl rfl;refine' zV rfl (λW s=>iJ rfl rfl rfl rfl rfl R t) ?_;refine' zQ rfl (j5 rfl rfl) (ae V.out _) ?_;refine zU ?_;refine ag ?_;exact⟨cb.heap.size,b8.heap.size,w.drew.heap.size,R,rfl,(SQ.made c5.out c6.out o.out q.out b d f g).1,(SQ.made c5.out c6.out o.out q.out b d f g).2,ae V.out _,V.out.size,T.out.size,x.out.size⟩
 ·rintro a' W ⟨v,y,hb,R,rfl,z,B,ce,H,E,a8⟩;have a9:=Lib.hid z;have bb:=Lib.hid B;have c7:=Lib.hid ce;have ej:Hid (w.heap.size<=v/\w.heap.size<=y/\w.heap.size<=hb):=⟨H,E,a8⟩;clear z B ce H E a8;generalize((n+1:Nat):Int)=e9;go_wp2
  go_loopw [5] (λY wr=>∃(k:Nat) (j:Int) (C:Nat->Nat->Nat) (u:Nat->Nat->Option an),k<=n/\Y= .int .i64 j/\Hid (j=(n:Int)-1-k)/\Hid (SQ wr v y (n+1) hb p C)/\Hid (cU wr hb (5* k) u)/\Hid (Below w.heap.size w wr)/\
   Hid (∀a,n<=a+k->a<n->kG C p a/\∀m,u a m=cB C p a m)/\Hid (∀a m,n<=a->C a m=0)) (λY _=>(intOf Y+1).toNat)
  case atStart=>exact⟨0,_,_,_,Nat.zero_le _,rfl,by show _=_;omega,a9.out,bb.out,c7.out,λa H E=>by omega,λ_ _ _=>rfl⟩
  case round=>
   clear a9 bb c7;obtain⟨k,j,C,u,r,rfl,bd,z,B,s,hF,Z⟩:=hrel;by_cases fb:k<n
   ·obtain⟨i,cg⟩:∃i,i=n-1-k:=⟨_,rfl⟩;obtain rfl:j=(i:Int):=by have:=bd.out;omega
    have J:=Lib.hid cg;have fd:i<=4096:=oO;have ek:i<p.size:=by have:=o.out;omega
    clear cg;go_wp2_with(go_at_call 130;refine(DH i wr w.heap.size v y (n+1) hb (5* k) p C u z.out B.out ek ej.out oO).mono ?_;rintro e ez ⟨rfl,C',ch,ci,ck,O⟩;have el:=Lib.hid ch;have co:=Lib.hid ci;have em:=Lib.hid ck;have D:=Lib.hid O;clear ch ci ck O)
    have c8:=co.out.1;refine⟨⟨k+1,_,C',_,by omega,rfl,by have:=J.out;show _=_;omega,el.out,em.out,s.out.trans D.out,?_,?_⟩,by simp[intOf]⟩
    ·show∀a,_;intro a H E;by_cases e:a=i
     ·subst e;exact⟨co.out.fix,λm=>if_pos rfl⟩
     ·obtain⟨dm,dn⟩:=hF.out a (by have:=J.out;omega) E;have hc:∀a' m,a<=a'->C' a' m=C a' m:=λa' m K=>c8 a' m (by have:=J.out;omega);exact⟨dm.congr hc,λm=>by rw[if_neg e,dn m,cB.congr hc]⟩
    ·show∀a m,_;intro a m K;rw[c8 a m (by have:=J.out;omega)];exact Z.out a m K
   ·have en:k=n:=oO;have fn:decide ((0:Int)<=j)=false:=by have:=bd.out;simp;omega
    have ds:Hid (SQ wr v y (n+1) hb p C/\cU wr hb (5* n) u/\(∀a,a<n->kG C p a/\∀m,u a m=cB C p a m)/\(∀a m,n<=a->C a m=0)/\Below w.heap.size w wr):=by
     have be:=B.out;rw[en]at be;exact⟨z.out,be,λa K=>hF.out a oO K,Z.out,s.out⟩
    clear z B s hF Z;go_wp2;go_ret;exact⟨v,y,n+1,hb,C,u,rfl,ds.out⟩
def notBits:Obj->Bool
 |.cells _ a _=>!(a==4)&&!(a==26)
 |_=>true
def gQ (w w':World):Prop:=∀(k:Nat) (a:Obj),w.heap[k]?=some a->notBits a=true->w'.heap[k]?=some a
theorem gQ.trans {a b c:World} (h:gQ a b) (f:gQ b c):gQ a c:=λk d g e=>f k d (h k d g e) e
theorem gQ.below {w W:World} (h:Below w.heap.size w W):gQ w W:=λk b a _=>(h.block k (aw a)).trans a
theorem aa.cZ {w w':World} {g:Nat} {b:Array Value} {a:TypeId} (h:aa w g b a) (c:gQ w w') (d:notBits (.cells b a (0,0))=true):aa w' g b a:=c g _ h d
theorem aa.cY {w:World} {g i:Nat} {b:Array Value} {a:TypeId} (h:aa w g b a) (u:Value):aa (w.setCell ⟨g,i,none⟩ u) g (b.setIfInBounds i u) a:=heap_setCell_same w g i b a u h
structure BO (n:Nat) (w wr:World) (b:Nat) (a:List Bool):Prop where
 B:Below n w wr
 X:∃A c,aa wr b #[.slice A a.length c] 26/\wr.ownsRow n 4 1 (.slice A a.length c) a.length (a.map vB)
 n1:n<=b
 n2:n<=wr.heap.size
theorem BO.below {n:Nat} {w wr W:World} {b:Nat} {d:List Bool} (h:BO n w wr b d) (a:Below wr.heap.size wr W):BO n w W b d:=by
 obtain⟨A,c,e,f⟩:=h.X;exact⟨h.B.trans (a.mono h.n2),⟨A,c,e.below a,ah f a⟩,h.n1,Nat.le_trans h.n2 a.size⟩
theorem Es {n:Nat} {w:World} {a q:Nat} {u:Value} {v:Value} {k:Nat} {xs:List Value} (b:aa w a #[u] 26) (c:w.ownsRow n 4 1 v k xs) (hq:v.ownBlock=some q):q≠a:=by
 rcases c.2 with⟨rfl,_⟩|⟨g,cap,d,rfl,_,hg,_⟩
 ·cases hq
 ·simp only[Value.ownBlock,Option.some.injEq]at hq;subst hq;intro e;subst e;unfold aa at b;rw[b]at hg;injection hg with hg;injection hg with _ e _;exact absurd e oD
theorem gQ.grown {n:Nat} {w W:World} {v:Value} {k:Nat} {xs:List Value} (h:w.ownsRow n 4 1 v k xs) (hg:w.grownBy W v.ownBlock):gQ w W:=by
 intro q c a hn;refine(hg.block q (aw a) ?_).trans a;intro e;rcases h.2 with⟨rfl,_⟩|⟨g,cap,d,rfl,_,b,_⟩
 ·cases e
 ·simp only[Value.ownBlock,Option.some.injEq]at e;subst e;rw[b]at a;injection a with a;subst a;exact absurd hn (by simp[notBits])
theorem gQ.cY {w:World} {g i:Nat} {b:Array Value} (h:aa w g b 26) (u:Value):gQ w (w.setCell ⟨g,i,none⟩ u):=by
 intro q c a hn;refine(Below.heap_setCell _ _ _ _ ?_).trans a;intro e;subst e;unfold aa at h;rw[h]at a;injection a with a;subst a;exact absurd hn (by simp[notBits])
theorem CM (n:Nat) (w0 w:World) (a:Nat) (b:List Bool) (v k:Nat) (h:BO n w0 w a b) (N:v<=1000000000000) (O:k<=62) (hl:b.length<=4000000000):
 Calls Tryz.prog 131 #[.int .i64 (v:Int),.int .i64 (k:Int),.pointer (some ⟨a,0,none⟩)] w λe w'=>e= .returned (.tuple #[])/\BO n w0 w' a (b++aH v k)/\gQ w w':=by
 obtain⟨P,Q,Z,ac,ad⟩:=info_parts fe;obtain⟨A,c,D,E⟩:=h.X;have S:=Lib.hid D;have T:=Lib.hid E;have U:=Lib.hid h.B;have j:Hid (n<=a/\n<=w.heap.size):=⟨h.n1,h.n2⟩;have H:=Lib.hid (bm v k);clear h D E;go_enter Tryz.func131,Tryz.ntmps131
 go_wp2_with(first
  |(go_at_call 59;refine(Bg v k _ N O).mono ?_;rintro e F ⟨v4,rfl,J,s⟩;obtain⟨V,n4,W,rfl,K⟩:=J.parts;have m:=Lib.hid s;have o:=Lib.hid K;have t:=Lib.hid (S.out.below s);have u:=Lib.hid (ah T.out s);have av:F.cell? ⟨a,0,none⟩=some (.slice A b.length c):=t.out.cell 0 _ rfl;clear J s K)
  |(at_builtin;refine aD (f:=vB) (d:=false) jS rfl _ _ _ rfl n 4 P _ 1 Tryz.underlying26 Q Z ac ad rfl _ b.length b rfl u.out V n4 W (aH v k) rfl o.out.hn o.out.rd (by have:=o.out.hn;have:=H.out;unfold maxLen;omega) (by have:=o.out.hn;have:=H.out;omega) (Nat.le_trans j.out.2 m.out.size) ?_;intro a0 l C hg;obtain⟨x,y,rfl⟩:=bT C;have B:=Lib.hid hg;have L:=Lib.hid C;have p:Hid (aa l a #[.slice A b.length c] 26):=(hg.block a (aw t.out) (λe=>Es t.out u.out e.symm rfl)).trans t.out;have a1:l.cell? ⟨a,0,none⟩=some (.slice A b.length c):=p.out.cell 0 _ rfl;have a2:l.frozen? ⟨a,0,none⟩=false:=frozen_of_row _ _ _ _ _ p.out;clear C hg))
 refine bodyPost_end (results_none rfl _ _ _) rfl ?_;have M:=o.out.hn;refine⟨rfl,⟨?_,⟨x,y,?_,?_⟩,j.out.1,?_⟩,?_⟩
 ·have al:Below n w0 F:=U.out.trans (m.out.mono j.out.2);have am:Below n w0 l:=al.grown B.out (Nat.le_trans j.out.2 m.out.size) (λq hq=>(u.out.lt q hq).1);exact am.setCell (by exact j.out.1) _
 ·have r:=p.out.cY (i:=0) (.slice x (b.length+n4) y);rw[List.length_append,<-M];exact r
 ·have r:=L.out;rw[List.length_append,<-M];refine⟨r.1,?_⟩;rcases r.2 with z|⟨g,cap,ap,G,z,X,Y⟩
  ·exact .inl z
  ·refine .inr ⟨g,cap,ap,G,z,(Below.heap_setCell _ _ _ _ ?_).trans X,Y⟩;exact Es p.out L.out (by rw[G];rfl)
 ·have e1:(l.setCell ⟨a,0,none⟩ (.slice x (b.length+n4) y)).heap.size=l.heap.size:=by simp
  rw[e1];exact Nat.le_trans (Nat.le_trans j.out.2 m.out.size) B.out.size
 ·exact(gQ.below m.out).trans ((gQ.grown u.out B.out).trans (gQ.cY p.out _))
end
end Go.Proofs.YtmnlkganmgcpbaaGreatDoor
