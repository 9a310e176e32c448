import Derived.Test.YtmnlkganmgcpbaaGreatDoorQm6
import Derived.Lib.SlBytesConst
import Derived.Test.YtmnlkganmgcpbaaGreatDoorTie
import Derived.OpenShut
import Derived.Carry
import Derived.Lay
import Derived.LaidMore
import Derived.SevenTiedAt
import Derived.Deep.Grids
import Derived.JoinedOf
set_option maxRecDepth 100000
set_option maxHeartbeats 4000000
set_option linter.unusedVariables false
set_option linter.unusedSectionVars false
set_option linter.unusedSimpArgs false
namespace Go.Proofs.YtmnlkganmgcpbaaGreatDoor
section
open Go.RowKit Go.WideMaps Go.Maps
def bA (l:List UInt8):ByteArray:=⟨l.toArray⟩
theorem pT (l:List UInt8):(bA l).size=l.length:=by show l.toArray.size=_;simp
theorem FH {p:ByteArray} {c:Nat->Nat->Option ay} {f a m:Nat} {b:ay} (d:a<p.size) (h:c a m=some b):ij p c (f+1) a m=cH p a m b++ij p c f b.at_ b.mode:=by
 show(if a<p.size then(match c a m with|some b=>cH p a m b++ij p c f b.at_ b.mode|none=>[])else[])=_;rw[if_pos d,h]
theorem H8 {p:ByteArray} {b:Nat->Nat->Option ay} {f a m:Nat} (c:p.size<=a):ij p b f a m=[]:=by
 cases f with
 |zero=>rfl
 |succ f=>
  show(if a<p.size then _ else[])=[];rw[if_neg oO]
theorem cT.JV {p:ByteArray} {C:Nat->Nat->Nat} (f:p.size<=4096) (h:cT p C) (a m:Nat) (c:a<p.size) (d:m<5):∃b,dq C p a m=some b/\Atom p a m b/\b.bQ C=C a m/\(cH p a m b).length=b.size:=by
 obtain⟨b,g,e,i⟩:=h.step f a m c d;exact⟨b,g,yw c e,i.eq.symm,(Dn c d 32 (Nat.le_refl _) e).ln⟩
theorem JC {p:ByteArray} {C:Nat->Nat->Nat} (g:p.size<=4096) (h:cT p C):∀f a m,m<5->C a m<=f->(ij p (dq C p) f a m).length=C a m:=by
 intro f
 induction f with
 |zero=>
  intro a m b i;have:C a m=0:=oO;rw[this];rfl
 |succ f j=>
  intro a m b i;by_cases c:a<p.size
  ·obtain⟨n,k,d,e,l⟩:=h.JV g a m c b;have o:=d.size_pos;rw[FH c k,List.length_append,l,j _ _ (d.Kx b) (by unfold ay.bQ at e;omega)];exact e
  ·rw[H8 oO,h.zero a m oO];rfl
theorem uq {p:ByteArray} {C:Nat->Nat->Nat} (a:p.size<=4096) (h:cT p C):(uO p C).length=C 0 0:=JC a h _ 0 0 oO (Nat.le_refl _)
theorem D1 {l:List UInt8} {C:Nat->Nat->Nat} (c:l.length<=2078) (h:JU (bA l) C):C 0 0<=8* l.length+21:=by
 have hs:=pT l;have b:dU 0 31=4:=oK;have w0:az 0=5:=rfl;by_cases d:0<l.length
 ·by_cases e:l.length<=31
  ·have a:=h.le 0 0 oO oO _ (Atom.short 31 l.length oO b d e oO);have f:C (0+l.length) 0=0:=h.zero _ _ oO;have g:C 0 0<=az 0+5+8* l.length+C (0+l.length) 0:=a;omega
  ·have a:=h.le 0 0 oO oO _ (Atom.long 31 l.length oO b oO c oO);have f:C (0+l.length) 0=0:=h.zero _ _ oO;have g:C 0 0<=az 0+16+8* l.length+C (0+l.length) 0:=a;omega
 ·rw[h.zero 0 0 oO];omega
theorem SR.ME {α:Type} {f:α->Value} {d:α} (W:World) (xs:List α) (t:TypeId) (a:Nat×Nat) (n:Nat) (hn:n=xs.length) (b:n<=maxLen):SR f d (W.alloc (.cells (xs.map f).toArray t a)) (some ⟨W.heap.size,0,none⟩) n n xs:=by
 refine⟨hn,Nat.le_refl _,b,λ_=>⟨_,rfl,by simp,λj c=>?_⟩⟩;rw[add_plain,Nat.zero_add,World.cell?_alloc_mark];simp[List.getD,c]
end
section
open Go.ChangeShapes Go.WideShapes Go.ChangeAt Go.RowKit
theorem F7 {H:Type} {enc:TypeId×Value->H} {P:Program} (hl:laidOutB P=true) {W g:World} (hb:Below W.heap.size W g):
 ∀(e:List TypeId) (c:List Value) (a:List (DataW H)) (ps:List MemPlace),(∀t∈e,P.readableRec t=true/\t<P.types.size)->
  DataW.TrodAll enc P W 0 (λ_=>true) true e c a ps->(∀x∈ps,x.block<W.heap.size)->
  DataW.TrodAll enc P g 0 (λb=>decide (b<W.heap.size)) true e c a ps:=by
 intro e
 induction e with
 |nil=>
  intro c a ps _ h _;cases c<;>cases a<;>first|exact h|exact h.elim
 |cons t e l=>
  intro c a ps i h k;cases c with
  |nil=>cases a<;>exact h.elim
  |cons v c=>
   cases a with
   |nil=>exact h.elim
   |cons d a=>
    obtain⟨p,q,m,n,rfl⟩:=h;have j:=i t oS;exact⟨p,q,Below.trod hl j.1 j.2 m hb (λx f=>k x (by simp[f])),l c a q (λo r=>i o (by simp[r])) n (λx f=>k x (by simp[f])),rfl⟩
theorem Il {H:Type} {enc:TypeId×Value->H} {P:Program} (hl:laidOutB P=true) {f:Func} {s:ChangeSpec} {W d:World} {args:Array Value} {a b:List (DataW H)} {n:List MemPlace} {B:TypeId}
 (hB:P.underlying B=some .bool) (l:f.resultTypes=#[B]) (m:s.vars=[]) (j:∀t∈f.params.toList,P.readableRec t=true/\t<P.types.size)
 (c:DataW.Whole enc P f.params.toList s.vars false W args.toList a b n)
 (hs:s.fn H (a++b)={results:=[.lit (.bool true)],args:=a}) (hb:Below W.heap.size W d):
 s.post enc P f false true false false W args (.bool true) d:=by
 have k:=c.lt;obtain⟨p,q,g,e,rfl,o,r⟩:=id c;refine⟨a,b,p++q,[],p,q,c,?_,?_,?_,hb.frame _,λh=>by cases h⟩
 ·rw[hs,l];exact trodAll_cons_mk (shut_bool hB _) trodAll_mk0
 ·rw[hs];exact F7 hl hb _ _ _ _ j g (λx i=>k x (by simp[i]))
 ·rw[hs];rw[m]at e⊢;obtain⟨rfl,rfl⟩:=trodVars_none e;rfl
theorem KU {w:World} {a:Addr} {v:Value} (h:w.cell? a=some v):a.block<w.heap.size:=by
 rcases Nat.lt_or_ge a.block w.heap.size with b|b
 ·exact b
 ·unfold World.cell? at h;rw[Array.getElem?_eq_none b]at h;cases h
theorem SR.MF {α:Type} {f:α->Value} {d:α} (W:World):SR f d W none 0 0 []:=⟨rfl,Nat.le_refl _,Nat.zero_le _,RG.dR _ _⟩
theorem JD {H:Type} {enc:TypeId×Value->H} {W:World} {b0:Nat} {r:Reach} {v:Value} {d:DataW H} {p:List MemPlace}
 (i:Value.okWide Tryz.prog W r b0 26 v) (h:DataW.Trod enc Tryz.prog W 0 (λ_=>true) true 26 v d p):∃A n c l,v= .slice A n c/\SR vB false W A n c l:=by
 obtain⟨s,e,q,rfl⟩:=okWide_slice Tryz.underlying26 i;obtain⟨u,k⟩:=h;rcases Deep.open_bools Tryz.underlying26 Tryz.underlying4 oK k with⟨b,_⟩|⟨a,len,cap,B,b,_,hl,m,t,g⟩
 ·simp[Value.cells]at b;obtain⟨rfl,rfl,rfl⟩:=b;exact⟨none,0,0,[],rfl,SR.MF _⟩
 ·simp[Value.cells]at b;obtain⟨rfl,rfl,rfl⟩:=b;refine⟨some a,e,q,(List.range e).map B,rfl,⟨by simp,hl,m,λhn=>?_⟩⟩;simp only[List.length_map,List.length_range]at hn;have o:=g 0 oO;refine⟨a,rfl,by have:=KU o;rw[aI]at this;exact this,λj f=>?_⟩;simp only[List.length_map,List.length_range]at f;rw[g j oO];have e2:((List.range e).map B).getD j false=B j:=by
   rw[List.getD_eq_getElem?_getD,List.getElem?_map,List.getElem?_range f];rfl
  rw[e2]
theorem MG:ownKnob Tryz.prog.godebug=none:=oK
theorem Ms:laidOutB Tryz.prog=true:=oK
end
theorem cM {a b:Bool} (h:a=true) (g:b=true):(a&&b)=true:=by rw[h,g];rfl
theorem Km:laidOutB Tryz.prog=true:=oK
theorem BL:mapsRowed Tryz.prog=true:=oK
theorem Jh:(Tryz.prog.stops==[])=true:=oK
theorem zM:(Tryz.prog.stopKnobs==[])=true:=oK
theorem yR:Tryz.prog.stopsHeard=true:=oK
theorem Cm:Tryz.prog.mayEnter=true:=oK
end Go.Proofs.YtmnlkganmgcpbaaGreatDoor
