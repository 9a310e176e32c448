import Derived.Test.YtmnlkganmgcpbaaGreatDoorQd7
import Derived.Lib.SlBytesConst
import Derived.Test.YtmnlkganmgcpbaaGreatDoorTie
import Derived.OpenShut
import Derived.Carry
import Derived.Lay
import Derived.LaidMore
import Derived.SevenTiedAt
import Derived.Deep.Grids
import Derived.Lib.SmallJoins
import Derived.JoinedOf
set_option maxRecDepth 100000
set_option maxHeartbeats 4000000
set_option linter.unusedVariables false
set_option linter.unusedSectionVars false
set_option linter.unusedSimpArgs false
namespace Go.Proofs.YtmnlkganmgcpbaaGreatDoor
section
open Go.RowKit Go.WideMaps Go.Maps
def J0 (p:ByteArray) (C:Nat->Nat->Nat) (a:Nat):Bool:=(List.range 5).all λm=>(bM C p a m 32).all (λb=>decide (C a m<=b.bK C))&&(bM C p a m 32).any (λb=>b.bK C==C a m)
theorem lR.Mj {p:ByteArray} {C:Nat->Nat->Nat} {a:Nat} (h:J0 p C a=true):lR C p a:=by
 unfold J0 at h;rw[List.all_eq_true]at h;refine⟨λm d c e=>?_,λm d=> .inr ?_⟩
 ·have b:=h m (List.mem_range.2 d);rw[Bool.and_eq_true,List.all_eq_true]at b;exact of_decide_eq_true (b.1 c e)
 ·have b:=h m (List.mem_range.2 d);rw[Bool.and_eq_true,List.any_eq_true]at b;obtain⟨c,e,f⟩:=b.2;exact⟨c,e,by simpa using f⟩
def BL (l:List (List Nat)) (a m:Nat):Nat:=(l.getD a []).getD m 0
theorem KH {l:List Nat} {B:Nat} (h:l.all (λx=>decide (x<=B))=true) (m:Nat):l.getD m 0<=B:=by
 rw[List.all_eq_true]at h;by_cases a:m<l.length
 ·have:=h l[m] (List.getElem_mem a);simp only[List.getD,List.getElem?_eq_getElem a,Option.getD_some];exact of_decide_eq_true this
 ·simp only[List.getD,List.getElem?_eq_none (show l.length<=m by omega),Option.getD_none];omega
theorem C8 {p:ByteArray} {l:List (List Nat)} (hl:l.length=p.size) (hb:l.all (λr=>r.all (λx=>decide (x<=1073741824)))=true) (hc:(List.range l.length).all (J0 p (BL l))=true):cj p (BL l):=by
 refine⟨λa b=>?_,λa m b=>?_,λa m=>?_⟩
 ·rw[List.all_eq_true]at hc;exact lR.Mj (hc a (List.mem_range.2 oO))
 ·have e:l.getD a []=[]:=by rw[List.getD_eq_getElem?_getD,List.getElem?_eq_none oO];rfl
  unfold BL;rw[e];simp
 ·unfold BL;rw[List.all_eq_true]at hb;by_cases b:a<l.length
  ·have e:l.getD a []=l[a]:=by rw[List.getD_eq_getElem?_getD,List.getElem?_eq_getElem b];rfl
   rw[e];exact KH (hb l[a] (List.getElem_mem b)) m
  ·have e:l.getD a []=[]:=by rw[List.getD_eq_getElem?_getD,List.getElem?_eq_none oO];rfl
   rw[e];simp
theorem AG {p:ByteArray} {C C':Nat->Nat->Nat} (c:p.size<=4096) (h:∀a m,m<5->C a m=C' a m) (a m:Nat) (d:a<p.size) (b:m<5):cM C p a m=cM C' p a m:=by
 unfold cM;rw[pU (C:=C) (C':=C') (λa' _=>h a' m b) 32];refine find_congr λf e=>?_;unfold aA.bK;rw[h _ _ (qv d c b 32 e).2.1,h a m b]
theorem EJ {p:ByteArray} {C:Nat->Nat->Nat} (d:p.size<=4096) {a m:Nat} (e:a<p.size) (f:m<5) {b:aA} (h:cM C p a m=some b):b.mode<5/\b∈bM C p a m 32/\b.bK C=C a m:=by
 unfold cM at h;have c:=List.mem_of_find?_eq_some h;have g:=List.find?_some h;exact⟨(qv e d f 32 c).2.1,c,by simpa using g⟩
theorem EP {p:ByteArray} {c d:Nat->Nat->Option aA} (h:∀a m,a<p.size->m<5->c a m=d a m) (i:∀a m b,a<p.size->m<5->c a m=some b->b.mode<5):∀f a m,m<5->fQ p c f a m=fQ p d f a m:=by
 intro f
 induction f with
 |zero=>intro a m _;rfl
 |succ f j=>
  intro a m g;show(if a<p.size then(match c a m with|some b=>cr p a m b++fQ p c f b.at_ b.mode|none=>[])else[])=(if a<p.size then(match d a m with|some b=>cr p a m b++fQ p d f b.at_ b.mode|none=>[])else[]);split
  ·rename_i e
   rw[<-h a m e g];cases hs:c a m with
   |none=>rfl
   |some b=>
    show _++_=_++_;rw[j _ _ (i a m b e g hs)]
  ·rfl
theorem De {p:ByteArray} {C C':Nat->Nat->Nat} (d:p.size<=4096) (h:∀a m,m<5->C a m=C' a m) (f a m:Nat) (b:m<5):fQ p (cM C p) f a m=fQ p (cM C' p) f a m:=
 EP (λa m c b=>AG d h a m c b) (λa m g c b e=>(EJ d c b e).1) f a m b
theorem xg {p:ByteArray} {C C':Nat->Nat->Nat} (b:p.size<=4096) (h:cj p C) (c:cj p C'):pZ p C=pZ p C'/\C 0 0=C' 0 0:=by
 have e:∀a m,m<5->C a m=C' a m:=λa m d=>h.uniq b c a m d;unfold pZ;rw[e 0 0 oO,De b e _ _ _ oO];exact⟨rfl,rfl⟩
abbrev pA:ByteArray:=⟨#[65]⟩
theorem Mm:cj pA (BL [[5,10,10,10,9]]):=C8 rfl rfl oK
theorem MU {C:Nat->Nat->Nat} (h:cj pA C):C 0 0=5:=(xg oD h Mm).2
def bA (l:List UInt8):ByteArray:=⟨l.toArray⟩
theorem fC (l:List UInt8):(bA l).size=l.length:=by show l.toArray.size=_;simp
theorem Ls (l:List UInt8) (a:Nat) (t:ByteArray):preB (bA l) a t=Lib.hasPrefix (l.drop a) t.data.toList:=by
 unfold preB;congr 1;rw[ByteArray.data_extract,Array.toList_extract,List.extract_eq_take_drop,fC];show(l.drop a).take (l.length-a)=_;rw[List.take_of_length_le (by rw[List.length_drop];omega)]
theorem p7 (x r:List Bool):∀j,j<=x.length->numF (x++r) 0 j=numF x 0 j
 |0,_=>rfl
 |j+1,h=>by
  show 2* numF (x++r) 0 j+(if(x++r).getD (0+j) false then 1 else 0)=2* numF x 0 j+(if x.getD (0+j) false then 1 else 0);rw[p7 x r j oO];congr 2;rw[Nat.zero_add];simp only[List.getD,List.getElem?_append_left (show j<x.length by omega)]
theorem He (x:List Bool) (y:Bool):numF (x++[y]) 0 (x.length+1)=2* numF x 0 x.length+(if y then 1 else 0):=by
 show 2* numF (x++[y]) 0 x.length+(if(x++[y]).getD (0+x.length) false then 1 else 0)=_;rw[p7 x [y] x.length (Nat.le_refl _)];congr 2;rw[Nat.zero_add];simp[List.getD]
theorem yz:∀(j v:Nat),v<2^j->numF (aH v j) 0 j=v
 |0,v,h=>by
  have:v=0:=by simpa using h
  subst this;rfl
 |j+1,v,h=>by
  have e:v=2* (v/2)+v%2:=oO;have b:v/2<2^j:=by rw[Nat.pow_succ]at h;omega
  have c:v%2<=1:=oO;have hl:=pq (v/2) (v%2) j c;rw[<-e]at hl;rw[hl];have a:=He (aH (v/2) j) (v%2==1);rw[aN]at a;rw[a,yz j _ b];have:(if(v%2==1)=true then 1 else 0)=v%2:=by
   rcases Nat.mod_two_eq_zero_or_one v with h|h<;>rw[h]<;>rfl
  rw[this];omega
theorem eW (j v:Nat) (r:List Bool) (h:v<2^j):numF (aH v j++r) 0 j=v:=by
 rw[p7 _ _ _ (by rw[aN];exact Nat.le_refl _),yz j v h]
theorem lJ (j v:Nat) (r:List Bool):(aH v j++r).drop j=r:=by
 have h:=aN v j;rw[List.drop_append_of_le_length oO,List.drop_of_length_le oO,List.nil_append]
theorem yN (b:List Bool):∀j,j<=b.length->aH (numF b 0 j) j=b.take j
 |0,_=>rfl
 |j+1,h=>by
  have hb:(if b.getD (0+j) false then 1 else 0)<=1:=by split<;>omega
  show aH (2* numF b 0 j+(if b.getD (0+j) false then 1 else 0)) (j+1)=_;rw[pq _ _ _ hb,yN b j oO,List.take_add_one,List.getElem?_eq_getElem oO,Nat.zero_add];congr 1;rw[List.getD_eq_getElem?_getD,List.getElem?_eq_getElem oO];cases b[j]<;>rfl
def bytesB:List UInt8->List Bool
 |[]=>[]
 |x::l=>aH x.toNat 8++bytesB l
theorem we:∀l:List UInt8,(bytesB l).length=8* l.length
 |[]=>rfl
 |x::l=>by unfold bytesB;rw[List.length_append,aN,we l,List.length_cons];omega
theorem sk:∀(l r:List UInt8),bytesB (l++r)=bytesB l++bytesB r
 |[],r=>rfl
 |x::l,r=>by
  show aH x.toNat 8++bytesB (l++r)=(aH x.toNat 8++bytesB l)++bytesB r;rw[sk l r,List.append_assoc]
theorem tF (l:List UInt8) (a:Nat):∀k,a+k<=l.length->byF (bA l) a k=bytesB ((l.drop a).take k)
 |0,_=>rfl
 |k+1,h=>by
  show byF (bA l) a k++aH ((bA l).data.toList.getD (a+k) 0).toNat 8=_;rw[tF l a k oO,List.take_add_one,List.getElem?_drop,List.getElem?_eq_getElem oO];show _=bytesB (_++[_]);rw[sk];congr 1;show aH (l.getD (a+k) 0).toNat 8=aH _ 8++[];rw[List.append_nil,List.getD_eq_getElem?_getD,List.getElem?_eq_getElem oO];rfl
theorem pI:∀(u:List UInt8) (r:List Bool) (out:List UInt8),byRes u.length (bytesB u++r) out=(0,r,out++u)
 |[],r,out=>by show(0,r,out)=_;rw[List.append_nil]
 |x::u,r,out=>by
  show(if(bytesB (x::u)++r).length<8 then _ else byRes u.length ((bytesB (x::u)++r).drop 8) (out++[UInt8.ofNat (numF (bytesB (x::u)++r) 0 8)]))=_;rw[if_neg (by rw[List.length_append,we,List.length_cons];omega)];have e:bytesB (x::u)++r=aH x.toNat 8++(bytesB u++r):=by
   show(aH x.toNat 8++bytesB u)++r=_;rw[List.append_assoc]
  rw[e,lJ,eW 8 _ _ (UInt8.toNat_lt x),UInt8.ofNat_toNat,pI u r];rw[List.append_assoc];rfl
theorem LK:∀m,m<5->∀n,n<32->bY m n≠0->n<2^an m:=of_decide_eq_true oK
theorem wN {l:List UInt8} {a:Nat} {t:ByteArray} (h:preB (bA l) a t=true):(l.drop a).take t.size=t.data.toList:=by
 rw[Ls]at h;unfold Lib.hasPrefix at h;rw[List.isPrefixOf_iff_prefix]at h;have e:t.size=t.data.toList.length:=by simp
 rw[e];exact(List.prefix_iff_eq_take.1 h).symm
theorem Atom.dec {l:List UInt8} {a m:Nat} {f:aA} (i:m<5) (h:Atom (bA l) a m f) (r:List Bool) (out:List UInt8):
 bC m (cr (bA l) a m f++r) out=(0,r,out++(l.drop a).take (f.at_-a),f.mode):=by
 have t:=kq m;have key:∀(n:Nat) (x:List Bool),n<32->bY m n≠0->bC m (aH n (an m)++x) out=sa m n x out:=by
  intro n x hn b;unfold bC;rw[if_neg (by rw[List.length_append,aN];omega),eW _ _ _ (LK m i n hn b),lJ]
 cases h with
 |chars n hn b g=>
  show bC m (((aH n (an m)++(if(0:Int)<=-1 then aH (-1:Int).toNat 5 else[]))++[])++r) out=(0,r,out++(l.drop a).take (a+(eM m n).size-a),m);rw[if_neg oO,List.append_nil,List.append_nil,key n r hn oO,Nat.add_sub_cancel_left,wN g];unfold sa;rw[if_pos b]
 |mY n hn b=>
  show bC m (((aH n (an m)++(if(0:Int)<=-1 then aH (-1:Int).toNat 5 else[]))++[])++r) out=(0,r,out++(l.drop a).take (a-a),modeF m n);rw[if_neg oO,List.append_nil,List.append_nil,key n r hn oO,Nat.sub_self];unfold sa;rw[if_neg oO,if_pos b,List.take_zero,List.append_nil]
 |shift n s hn b hs q g=>
  have o:=wv m i n hn b;show bC m (((aH n (an m)++(if(0:Int)<=(s:Int)then aH (s:Int).toNat 5 else[]))++[])++r) out=(0,r,out++(l.drop a).take (a+(eM (modeF m n) s).size-a),m);rw[if_pos oO,List.append_nil,List.append_assoc,key n _ hn oO,Nat.add_sub_cancel_left,wN g];unfold sa;rw[if_neg oO,if_neg oO,if_pos b];unfold ft;rw[o,Int.toNat_natCast,if_neg (by rw[List.length_append,aN];omega),eW 5 s r oO,if_pos q,lJ]
 |short n j hn b k p c=>
  rw[fC]at c;show bC m (((aH n (an m)++(if(0:Int)<=-1 then aH (-1:Int).toNat 5 else[]))++mj (bA l) a ⟨n,-1,j,false,an m+5+8* j,a+j,m⟩)++r) out=(0,r,out++(l.drop a).take (a+j-a),m);rw[if_neg oO,List.append_nil,List.append_assoc,key n _ hn oO,Nat.add_sub_cancel_left];unfold mj;rw[if_pos (by show 0<j;omega),if_neg oS];show sa m n ((aH j 5++byF (bA l) a j)++r) out=_;rw[List.append_assoc];unfold sa;rw[if_neg oO,if_neg oO,if_neg oO,if_pos b];have e:cS (aH j 5++(byF (bA l) a j++r)) out=(0,r,out++(l.drop a).take j):=by
   unfold cS;rw[if_neg (by rw[List.length_append,aN];omega),eW 5 j _ oO,lJ,if_neg oO,tF l a j c];have hl:((l.drop a).take j).length=j:=by rw[List.length_take,List.length_drop];omega
   have d:=pI ((l.drop a).take j) r out;rw[hl]at d;exact d
  rw[e]
 |long n j hn b k p c=>
  rw[fC]at c;show bC m (((aH n (an m)++(if(0:Int)<=-1 then aH (-1:Int).toNat 5 else[]))++mj (bA l) a ⟨n,-1,j,true,an m+16+8* j,a+j,m⟩)++r) out=(0,r,out++(l.drop a).take (a+j-a),m);rw[if_neg oO,List.append_nil,List.append_assoc,key n _ hn oO,Nat.add_sub_cancel_left];unfold mj;rw[if_pos (by show 0<j;omega),if_pos rfl];show sa m n (((aH 0 5++aH (j-31) 11)++byF (bA l) a j)++r) out=_;rw[List.append_assoc,List.append_assoc];unfold sa;rw[if_neg oO,if_neg oO,if_neg oO,if_pos b];have e:cS (aH 0 5++(aH (j-31) 11++(byF (bA l) a j++r))) out=(0,r,out++(l.drop a).take j):=by
   unfold cS;rw[if_neg (by rw[List.length_append,aN];omega),eW 5 0 _ oO,lJ,if_pos rfl,if_neg (by rw[List.length_append,aN];omega),eW 11 _ _ oO,lJ,tF l a j c,Nat.sub_add_cancel k];have hl:((l.drop a).take j).length=j:=by rw[List.length_take,List.length_drop];omega
   have d:=pI ((l.drop a).take j) r out;rw[hl]at d;exact d
  rw[e]
theorem Bf {b:List Bool} (h:12<=b.length):ic b=false:=by unfold ic;rw[decide_eq_false oO];rfl
theorem AF {b:List Bool} (h:b.all id=false):ic b=false:=by unfold ic;rw[h,Bool.and_false]
theorem fF {x r:List Bool} (h:x.all id=false):(x++r).all id=false:=by rw[List.all_append,h];rfl
theorem rz:∀m,m<5->∀n,n<32->bY m n≠0->(aH n (an m)).all id=false\/bY m n=4\/(bY m n=2/\m=3/\modeF m n=0)\/(bY m n=3/\modeF m n=0):=of_decide_eq_true oK
theorem FD:∀n,n<32->bY 0 n=1->(aH n 5).all id=false:=of_decide_eq_true oK
theorem Atom.G8 {p:ByteArray} {a m:Nat} {b:aA} (d:m<5) (h:Atom p a m b):(cr p a m b).all id=false\/12<=(cr p a m b).length\/(m=3/\b.mode=0/\b.at_=a):=by
 have l:=kq m;cases h with
 |chars n hn c g=>
  rcases rz m d n hn oO with h|h|h|h
  ·exact .inl (fF (fF h))
  ·omega
  ·omega
  ·omega
 |mY n hn c=>
  rcases rz m d n hn oO with h|h|h|h
  ·exact .inl (fF (fF h))
  ·omega
  ·exact .inr (.inr ⟨h.2.1,h.2.2,rfl⟩)
  ·omega
 |shift n s hn c hs f g=>
  rcases rz m d n hn oO with h|h|h|h
  ·exact .inl (fF (fF h))
  ·omega
  ·omega
  ·rw[h.2]at f;have e:=FD s hs f;left;show((aH n (an m)++(if(0:Int)<=(s:Int)then aH (s:Int).toNat 5 else[]))++[]).all id=false;rw[if_pos oO,Int.toNat_natCast,List.append_nil,List.all_append,e,Bool.and_false]
 |short n j hn c i e k=>
  right;left;show 12<=((aH n (an m)++(if(0:Int)<=-1 then aH (-1:Int).toNat 5 else[]))++mj p a ⟨n,-1,j,false,an m+5+8* j,a+j,m⟩).length;unfold mj;rw[if_neg oO,if_pos (by show 0<j;omega),if_neg oS];simp only[List.length_append,aN,oe,List.length_nil];omega
 |long n j hn c i e k=>
  right;left;show 12<=((aH n (an m)++(if(0:Int)<=-1 then aH (-1:Int).toNat 5 else[]))++mj p a ⟨n,-1,j,true,an m+16+8* j,a+j,m⟩).length;unfold mj;rw[if_neg oO,if_pos (by show 0<j;omega),if_pos rfl];simp only[List.length_append,aN,oe,List.length_nil];omega
theorem pd {p:ByteArray} {c:Nat->Nat->Option aA} {f a m:Nat} {b:aA} (d:a<p.size) (h:c a m=some b):fQ p c (f+1) a m=cr p a m b++fQ p c f b.at_ b.mode:=by
 show(if a<p.size then(match c a m with|some b=>cr p a m b++fQ p c f b.at_ b.mode|none=>[])else[])=_;rw[if_pos d,h]
theorem BU {p:ByteArray} {b:Nat->Nat->Option aA} {f a m:Nat} (c:p.size<=a):fQ p b f a m=[]:=by
 cases f with
 |zero=>rfl
 |succ f=>
  show(if a<p.size then _ else[])=[];rw[if_neg oO]
theorem cj.ua {p:ByteArray} {C:Nat->Nat->Nat} (f:p.size<=4096) (h:cj p C) (a m:Nat) (c:a<p.size) (d:m<5):∃b,cM C p a m=some b/\Atom p a m b/\b.bK C=C a m/\(cr p a m b).length=b.size:=by
 obtain⟨b,g,e,i⟩:=h.step f a m c d;exact⟨b,g,yK c e,i.eq.symm,(Eg c d 32 (Nat.le_refl _) e).ln⟩
theorem Kc {p:ByteArray} {C:Nat->Nat->Nat} (g:p.size<=4096) (h:cj p C):∀f a m,m<5->C a m<=f->(fQ p (cM C p) f a m).length=C a m:=by
 intro f
 induction f with
 |zero=>
  intro a m b i;have:C a m=0:=oO;rw[this];rfl
 |succ f j=>
  intro a m b i;by_cases c:a<p.size
  ·obtain⟨n,k,d,e,l⟩:=h.ua g a m c b;have o:=d.size_pos;rw[pd c k,List.length_append,l,j _ _ (d.D7 b) (by unfold aA.bK at e;omega)];exact e
  ·rw[BU oO,h.zero a m oO];rfl
theorem rQ {p:ByteArray} {C:Nat->Nat->Nat} (a:p.size<=4096) (h:cj p C):(pZ p C).length=C 0 0:=Kc a h _ 0 0 oO (Nat.le_refl _)
theorem Fj {p:ByteArray} {C:Nat->Nat->Nat} (g:p.size<=4096) (h:cj p C) (f a m:Nat) (i:m<5) (t:C a m<=f) (c:a<p.size) (r:List Bool):ic (fQ p (cM C p) f a m++r)=false:=by
 obtain⟨s,n,j,k,u⟩:=h.ua g a m c i;have x:=j.size_pos;unfold aA.bK at k;obtain⟨f,rfl⟩:∃d,f=d+1:=⟨f-1,by omega⟩;rw[pd c n,List.append_assoc];rcases j.G8 i with b|b|b
 ·exact AF (fF b)
 ·exact Bf (by rw[List.length_append];omega)
 ·obtain⟨v,o,l,q,w⟩:=h.ua g a 0 c oO;have y:=l.size_pos;rw[b.2.2,b.2.1]at k⊢;unfold aA.bK at q;obtain⟨f,rfl⟩:∃d,f=d+1:=⟨f-1,by omega⟩;rw[pd c o,List.append_assoc];rcases l.G8 oO with e|e|e
  ·refine AF ?_;rw[List.all_append,fF e,Bool.and_false]
  ·exact Bf (by rw[List.length_append,List.length_append];omega)
  ·omega
theorem zk (k:Nat) (a:k<=11):ic (List.replicate k true)=true:=by
 unfold ic;rw[decide_eq_true (by rw[List.length_replicate];omega)];simp
theorem Ax {F m:Nat} {b:List Bool} {out:List UInt8} (h:ic b=true):decF (F+1) m b out=(out,0):=by
 unfold decF;rw[if_pos h]
theorem FW {F m:Nat} {b:List Bool} {out:List UInt8} {e:Int} {b':List Bool} {c:List UInt8} {a:Nat} (h:ic b=false) (d:bC m b out=(e,b',c,a)) (f:e=0):decF (F+1) m b out=decF F a b' c:=by
 show(if ic b=true then(out,(0:Int))else if(bC m b out).1=0 then decF F (bC m b out).2.2.2 (bC m b out).2.1 (bC m b out).2.2.1 else([],(bC m b out).1))=_;rw[h,d,if_neg oS];exact if_pos f
theorem Lm {l:List UInt8} {C:Nat->Nat->Nat} (o:l.length<=4096) (h:cj (bA l) C) (k:Nat) (p:k<=11):∀f a m F out,m<5->a<=l.length->C a m<=f->C a m<F->
 decF F m (fQ (bA l) (cM C (bA l)) f a m++List.replicate k true) out=(out++l.drop a,0):=by
 intro f
 induction f with
 |zero=>
  intro a m F out d u q hF;obtain⟨F,rfl⟩:∃i,F=i+1:=⟨F-1,by omega⟩;have n:a=l.length:=by
   rcases Nat.lt_or_ge a l.length with g|g
   ·obtain⟨b,_,c,j,_⟩:=h.ua (by rw[fC];exact o) a m (by rw[fC];exact g) d;have:=c.size_pos;unfold aA.bK at j;omega
   ·omega
  subst n;rw[show fQ (bA l) (cM C (bA l)) 0 l.length m=[]from rfl,List.nil_append,Ax (zk k p),List.drop_length,List.append_nil]
 |succ f v=>
  intro a m F out d u q hF;obtain⟨F,rfl⟩:∃i,F=i+1:=⟨F-1,by omega⟩;by_cases w:a<l.length
  ·have s:(bA l).size<=4096:=by rw[fC];exact o
   have has:a<(bA l).size:=by rw[fC];exact w
   obtain⟨b,g,c,j,y⟩:=h.ua s a m has d;have z:=c.size_pos;have x:=Fj s h (f+1) a m d q has (List.replicate k true);have t:=c.MV has;have A:=c.MT;rw[fC]at t;unfold aA.bK at j;have r:=c.dec d (fQ (bA l) (cM C (bA l)) f b.at_ b.mode++List.replicate k true) out;rw[<-List.append_assoc,<-pd has g]at r;rw[FW x r rfl,v b.at_ b.mode F _ (c.D7 d) t oO oO,List.append_assoc];have e:l.drop b.at_=(l.drop a).drop (b.at_-a):=by rw[List.drop_drop,show a+(b.at_-a)=b.at_ from by omega]
   rw[e,List.take_append_drop]
  ·have n:a=l.length:=oO;subst n;rw[BU (by rw[fC];exact Nat.le_refl _),List.nil_append];rw[Ax (zk k p),List.drop_length,List.append_nil]
theorem J4 {l:List UInt8} {C:Nat->Nat->Nat} (a:l.length<=4096) (h:cj (bA l) C) (k:Nat) (d:k<=11):dQ (pZ (bA l) C++List.replicate k true)=(l,0):=by
 have c:(pZ (bA l) C).length=C 0 0:=rQ (by rw[fC];exact a) h;have e:=h.up 0;rw[fC]at e;unfold dQ;rw[if_neg (by rw[List.length_append,c,List.length_replicate];omega)];have b:=Lm a h k d (C 0 0) 0 0 ((pZ (bA l) C++List.replicate k true).length+1) [] oO oO (Nat.le_refl _) (by rw[List.length_append,c];omega);rw[List.nil_append,List.drop_zero]at b;exact b
theorem EV {l:List UInt8} {C:Nat->Nat->Nat} (c:l.length<=2078) (h:Ki (bA l) C):C 0 0<=8* l.length+21:=by
 have hs:=fC l;have b:bY 0 31=4:=oK;have w0:an 0=5:=rfl;by_cases d:0<l.length
 ·by_cases e:l.length<=31
  ·have a:=h.le 0 0 oO oO _ (Atom.short 31 l.length oO b d e oO);have f:C (0+l.length) 0=0:=h.zero _ _ oO;have g:C 0 0<=an 0+5+8* l.length+C (0+l.length) 0:=a;omega
  ·have a:=h.le 0 0 oO oO _ (Atom.long 31 l.length oO b oO c oO);have f:C (0+l.length) 0=0:=h.zero _ _ oO;have g:C 0 0<=an 0+16+8* l.length+C (0+l.length) 0:=a;omega
 ·rw[h.zero 0 0 oO];omega
theorem SR.Nj {α:Type} {f:α->Value} {d:α} (W:World) (xs:List α) (t:TypeId) (a:Nat×Nat) (n:Nat) (hn:n=xs.length) (b:n<=maxLen):SR f d (W.alloc (.cells (xs.map f).toArray t a)) (some ⟨W.heap.size,0,none⟩) n n xs:=by
 refine⟨hn,Nat.le_refl _,b,λ_=>⟨_,rfl,by simp,λj c=>?_⟩⟩;rw[add_plain,Nat.zero_add,World.cell?_alloc_mark];simp[List.getD,c]
theorem s8 {P:Program} {c:Array Oper} {d:List Oper} {b:Oper} {a:Act} {Q:Exit->Act->World->Prop} {w:World} {v:Value} (i:Region.wanted b (yielded c a.tmps)=true) (e:(execOp a.eval b).run P w= .ok (.value v) w) (f:wpList P c Q d (a.put b.dst v) w):wpList P c Q (b::d) a w:=by
 refine wpList_step λK g=>?_;simp only[i,if_true];unfold Oper.wp;rw[e];exact g _ _ f
end
section
open Go.ChangeShapes Go.WideShapes Go.ChangeAt Go.RowKit
theorem GR {H:Type} {enc:TypeId×Value->H} {P:Program} (hl:laidOutB P=true) {W g:World} (hb:Below W.heap.size W g):
 ∀(e:List TypeId) (c:List Value) (a:List (DataW H)) (ps:List MemPlace),(∀t∈e,P.readableRec t=true/\t<P.types.size)->
  DataW.TrodAll enc P W 0 (λ_=>true) true e c a ps->(∀x∈ps,x.block<W.heap.size)->
  DataW.TrodAll enc P g 0 (λb=>decide (b<W.heap.size)) true e c a ps:=by
 intro e
 induction e with
 |nil=>
  intro c a ps _ h _;cases c<;>cases a<;>first|exact h|exact h.elim
 |cons t e l=>
  intro c a ps i h k;cases c with
  |nil=>cases a<;>exact h.elim
  |cons v c=>
   cases a with
   |nil=>exact h.elim
   |cons d a=>
    obtain⟨p,q,m,n,rfl⟩:=h;have j:=i t oS;exact⟨p,q,Below.trod hl j.1 j.2 m hb (λx f=>k x (by simp[f])),l c a q (λo r=>i o (by simp[r])) n (λx f=>k x (by simp[f])),rfl⟩
theorem I9 {H:Type} {enc:TypeId×Value->H} {P:Program} (hl:laidOutB P=true) {f:Func} {s:ChangeSpec} {W d:World} {args:Array Value} {a b:List (DataW H)} {n:List MemPlace} {B:TypeId}
 (hB:P.underlying B=some .bool) (l:f.resultTypes=#[B]) (m:s.vars=[]) (j:∀t∈f.params.toList,P.readableRec t=true/\t<P.types.size)
 (c:DataW.Whole enc P f.params.toList s.vars false W args.toList a b n)
 (hs:s.fn H (a++b)={results:=[.lit (.bool true)],args:=a}) (hb:Below W.heap.size W d):
 s.post enc P f false true false false W args (.bool true) d:=by
 have k:=c.lt;obtain⟨p,q,g,e,rfl,o,r⟩:=id c;refine⟨a,b,p++q,[],p,q,c,?_,?_,?_,hb.frame _,λh=>by cases h⟩
 ·rw[hs,l];exact trodAll_cons_mk (shut_bool hB _) trodAll_mk0
 ·rw[hs];exact GR hl hb _ _ _ _ j g (λx i=>k x (by simp[i]))
 ·rw[hs];rw[m]at e⊢;obtain⟨rfl,rfl⟩:=trodVars_none e;rfl
theorem K3 {w:World} {a:Addr} {v:Value} (h:w.cell? a=some v):a.block<w.heap.size:=by
 rcases Nat.lt_or_ge a.block w.heap.size with b|b
 ·exact b
 ·unfold World.cell? at h;rw[Array.getElem?_eq_none b]at h;cases h
theorem MW {a:Int} (h:(Lit.int .u8 a).wf=true):0<=a/\a<=255:=by
 simpa[Lit.wf,IntKind.min,IntKind.max,IntKind.signed,IntKind.bits]using h
theorem SR.Np {α:Type} {f:α->Value} {d:α} (W:World):SR f d W none 0 0 []:=⟨rfl,Nat.le_refl _,Nat.zero_le _,RG.dO _ _⟩
theorem Ij {H:Type} {enc:TypeId×Value->H} {W:World} {b0:Nat} {r:Reach} {v:Value} {d:DataW H} {p:List MemPlace}
 (k:Value.okWide Tryz.prog W r b0 22 v) (h:DataW.Trod enc Tryz.prog W 0 (λ_=>true) true 22 v d p):∃A n c l,v= .slice A n c/\SR vU 0 W A n c l:=by
 obtain⟨x,g,w,rfl⟩:=okWide_slice Tryz.underlying22 k;obtain⟨B,m⟩:=h;rcases open_ints Tryz.underlying22 Tryz.underlying5 oK m with⟨e,_⟩|⟨a,len,cap,b,e,_,hl,o,q,y,i,u⟩
 ·simp[Value.cells]at e;obtain⟨rfl,rfl,rfl⟩:=e;exact⟨none,0,0,[],rfl,SR.Np _⟩
 ·simp[Value.cells]at e;obtain⟨rfl,rfl,rfl⟩:=e;simp only[if_true]at q;refine⟨some a,g,w,(b.take g).map (λz=>UInt8.ofNat z.toNat),rfl,⟨by simp;omega,hl,o,λhn=>?_⟩⟩;simp only[List.length_map,List.length_take]at hn;have s:=i 0 oO;refine⟨a,rfl,by have:=K3 s;rw[aL]at this;exact this,λj t=>?_⟩;simp only[List.length_map,List.length_take]at t;rw[i j oO];have f:j<b.length:=oO;have e1:b.getD j 0=b[j]:=by simp[List.getD,f]
  have e2:((b.take g).map (λz=>UInt8.ofNat z.toNat)).getD j 0=UInt8.ofNat (b[j]).toNat:=by
   rw[List.getD_eq_getElem?_getD,List.getElem?_map,List.getElem?_take_of_lt oO,List.getElem?_eq_getElem f];rfl
  rw[e1,e2];have hb:=MW (u _ (List.getElem_mem f));show some (Value.int .u8 b[j])=some (Value.int .u8 _);rw[UInt8.toNat_ofNat',Nat.mod_eq_of_lt oO,Int.toNat_of_nonneg hb.1]
theorem Nd:ownKnob Tryz.prog.godebug=none:=oK
theorem MO:laidOutB Tryz.prog=true:=oK
theorem J6 {H:Type} {enc:TypeId×Value->H} {W:World} {b0:Nat} {r:Reach} {v:Value} {d:DataW H} {p:List MemPlace}
 (b:Value.okWide Tryz.prog W r b0 24 v) (h:DataW.Trod enc Tryz.prog W 0 (λ_=>true) true 24 v d p):∃(x:Int) (y:Bool) (z:Int),v= .agg #[.int .i64 x,.bool y,.int .i64 z]:=by
 obtain⟨v0,v1,g,i,j,k,n,rfl,-,-,c,e,f⟩:=Joins.open_agg3 Tryz.underlying24 oK oK b h;obtain⟨x,a,-,-⟩:=DataW.trod_int Tryz.underlying3 c;obtain⟨y,e1,-⟩:=DataW.trod_bool Tryz.underlying4 e;obtain⟨z,e2,-,-⟩:=DataW.trod_int Tryz.underlying3 f;injection a with a;injection e1 with e1;injection e2 with e2;subst a e1 e2;exact⟨x,y,z,rfl⟩
end
theorem cI {a b:Bool} (h:a=true) (g:b=true):(a&&b)=true:=by rw[h,g];rfl
theorem KO:laidOutB Tryz.prog=true:=oK
theorem Cr:mapsRowed Tryz.prog=true:=oK
theorem IN:(Tryz.prog.stops==[])=true:=oK
theorem Ca:(Tryz.prog.stopKnobs==[])=true:=oK
theorem zt:Tryz.prog.stopsHeard=true:=oK
theorem Dc:Tryz.prog.mayEnter=true:=oK
end Go.Proofs.YtmnlkganmgcpbaaGreatDoor
