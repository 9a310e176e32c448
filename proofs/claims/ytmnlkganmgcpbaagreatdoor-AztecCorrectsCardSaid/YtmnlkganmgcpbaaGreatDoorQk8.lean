import Derived.Test.YtmnlkganmgcpbaaGreatDoorQk7
import Derived.Lib.SlBytesConst
import Derived.Test.YtmnlkganmgcpbaaGreatDoorTie
import Derived.OpenShut
import Derived.Carry
import Derived.Lay
import Derived.LaidMore
import Derived.SevenTiedAt
import Derived.Deep.Grids
import Derived.Lib.SmallJoins
import Derived.JoinedOf
set_option maxRecDepth 100000
set_option maxHeartbeats 4000000
set_option linter.unusedVariables false
set_option linter.unusedSectionVars false
set_option linter.unusedSimpArgs false
namespace Go.Proofs.YtmnlkganmgcpbaaGreatDoor
section
open Go.RowKit Go.WideMaps Go.Maps
def I7 (p:ByteArray) (C:Nat->Nat->Nat) (a:Nat):Bool:=(List.range 5).all λm=>(bJ C p a m 32).all (λb=>decide (C a m<=b.bI C))&&(bJ C p a m 32).any (λb=>b.bI C==C a m)
theorem lX.MI {p:ByteArray} {C:Nat->Nat->Nat} {a:Nat} (h:I7 p C a=true):lX C p a:=by
 unfold I7 at h;rw[List.all_eq_true]at h;refine⟨λm d c e=>?_,λm d=> .inr ?_⟩
 ·have b:=h m (List.mem_range.2 d);rw[Bool.and_eq_true,List.all_eq_true]at b;exact of_decide_eq_true (b.1 c e)
 ·have b:=h m (List.mem_range.2 d);rw[Bool.and_eq_true,List.any_eq_true]at b;obtain⟨c,e,f⟩:=b.2;exact⟨c,e,by simpa using f⟩
def Bz (l:List (List Nat)) (a m:Nat):Nat:=(l.getD a []).getD m 0
theorem Lw {l:List Nat} {B:Nat} (h:l.all (λx=>decide (x<=B))=true) (m:Nat):l.getD m 0<=B:=by
 rw[List.all_eq_true]at h;by_cases a:m<l.length
 ·have:=h l[m] (List.getElem_mem a);simp only[List.getD,List.getElem?_eq_getElem a,Option.getD_some];exact of_decide_eq_true this
 ·simp only[List.getD,List.getElem?_eq_none (show l.length<=m by omega),Option.getD_none];omega
theorem Du {p:ByteArray} {l:List (List Nat)} (hl:l.length=p.size) (hb:l.all (λr=>r.all (λx=>decide (x<=1073741824)))=true) (hc:(List.range l.length).all (I7 p (Bz l))=true):cj p (Bz l):=by
 refine⟨λa b=>?_,λa m b=>?_,λa m=>?_⟩
 ·rw[List.all_eq_true]at hc;exact lX.MI (hc a (List.mem_range.2 oO))
 ·have e:l.getD a []=[]:=by rw[List.getD_eq_getElem?_getD,List.getElem?_eq_none oO];rfl
  unfold Bz;rw[e];simp
 ·unfold Bz;rw[List.all_eq_true]at hb;by_cases b:a<l.length
  ·have e:l.getD a []=l[a]:=by rw[List.getD_eq_getElem?_getD,List.getElem?_eq_getElem b];rfl
   rw[e];exact Lw (hb l[a] (List.getElem_mem b)) m
  ·have e:l.getD a []=[]:=by rw[List.getD_eq_getElem?_getD,List.getElem?_eq_none oO];rfl
   rw[e];simp
theorem BL {p:ByteArray} {C C':Nat->Nat->Nat} (c:p.size<=4096) (h:∀a m,m<5->C a m=C' a m) (a m:Nat) (d:a<p.size) (b:m<5):cG C p a m=cG C' p a m:=by
 unfold cG;rw[qd (C:=C) (C':=C') (λa' _=>h a' m b) 32];refine find_congr λf e=>?_;unfold az.bI;rw[h _ _ (qt d c b 32 e).2.1,h a m b]
theorem FP {p:ByteArray} {C:Nat->Nat->Nat} (d:p.size<=4096) {a m:Nat} (e:a<p.size) (f:m<5) {b:az} (h:cG C p a m=some b):b.mode<5/\b∈bJ C p a m 32/\b.bI C=C a m:=by
 unfold cG at h;have c:=List.mem_of_find?_eq_some h;have g:=List.find?_some h;exact⟨(qt e d f 32 c).2.1,c,by simpa using g⟩
theorem Fy {p:ByteArray} {c d:Nat->Nat->Option az} (h:∀a m,a<p.size->m<5->c a m=d a m) (i:∀a m b,a<p.size->m<5->c a m=some b->b.mode<5):∀f a m,m<5->fZ p c f a m=fZ p d f a m:=by
 intro f
 induction f with
 |zero=>intro a m _;rfl
 |succ f j=>
  intro a m g;show(if a<p.size then(match c a m with|some b=>cf p a m b++fZ p c f b.at_ b.mode|none=>[])else[])=(if a<p.size then(match d a m with|some b=>cf p a m b++fZ p d f b.at_ b.mode|none=>[])else[]);split
  ·rename_i e
   rw[<-h a m e g];cases hs:c a m with
   |none=>rfl
   |some b=>
    show _++_=_++_;rw[j _ _ (i a m b e g hs)]
  ·rfl
theorem C8 {p:ByteArray} {C C':Nat->Nat->Nat} (d:p.size<=4096) (h:∀a m,m<5->C a m=C' a m) (f a m:Nat) (b:m<5):fZ p (cG C p) f a m=fZ p (cG C' p) f a m:=
 Fy (λa m c b=>BL d h a m c b) (λa m g c b e=>(FP d c b e).1) f a m b
theorem wQ {p:ByteArray} {C C':Nat->Nat->Nat} (b:p.size<=4096) (h:cj p C) (c:cj p C'):pX p C=pX p C'/\C 0 0=C' 0 0:=by
 have e:∀a m,m<5->C a m=C' a m:=λa m d=>h.uniq b c a m d;unfold pX;rw[e 0 0 oO,C8 b e _ _ _ oO];exact⟨rfl,rfl⟩
abbrev pA:ByteArray:=⟨#[65]⟩
theorem Na:cj pA (Bz [[5,10,10,10,9]]):=Du rfl rfl oK
theorem Nj {C:Nat->Nat->Nat} (h:cj pA C):C 0 0=5:=(wQ oD h Na).2
def bA (l:List UInt8):ByteArray:=⟨l.toArray⟩
theorem fA (l:List UInt8):(bA l).size=l.length:=by show l.toArray.size=_;simp
theorem Le (l:List UInt8) (a:Nat) (b:ByteArray):preB (bA l) a b=Lib.hasPrefix (l.drop a) b.data.toList:=by
 unfold preB;congr 1;rw[ByteArray.data_extract,Array.toList_extract,List.extract_eq_take_drop,fA];show(l.drop a).take (l.length-a)=_;rw[List.take_of_length_le (by rw[List.length_drop];omega)]
theorem pU (x r:List Bool):∀j,j<=x.length->numF (x++r) 0 j=numF x 0 j
 |0,_=>rfl
 |j+1,h=>by
  show 2* numF (x++r) 0 j+(if(x++r).getD (0+j) false then 1 else 0)=2* numF x 0 j+(if x.getD (0+j) false then 1 else 0);rw[pU x r j oO];congr 2;rw[Nat.zero_add];simp only[List.getD,List.getElem?_append_left (show j<x.length by omega)]
theorem Gv (x:List Bool) (y:Bool):numF (x++[y]) 0 (x.length+1)=2* numF x 0 x.length+(if y then 1 else 0):=by
 show 2* numF (x++[y]) 0 x.length+(if(x++[y]).getD (0+x.length) false then 1 else 0)=_;rw[pU x [y] x.length (Nat.le_refl _)];congr 2;rw[Nat.zero_add];simp[List.getD]
theorem zR:∀(j v:Nat),v<2^j->numF (aH v j) 0 j=v
 |0,v,h=>by
  have:v=0:=by simpa using h
  subst this;rfl
 |j+1,v,h=>by
  have e:v=2* (v/2)+v%2:=oO;have b:v/2<2^j:=by rw[Nat.pow_succ]at h;omega
  have c:v%2<=1:=oO;have hl:=pD (v/2) (v%2) j c;rw[<-e]at hl;rw[hl];have a:=Gv (aH (v/2) j) (v%2==1);rw[aL]at a;rw[a,zR j _ b];have:(if(v%2==1)=true then 1 else 0)=v%2:=by
   rcases Nat.mod_two_eq_zero_or_one v with h|h<;>rw[h]<;>rfl
  rw[this];omega
theorem eO (j v:Nat) (r:List Bool) (h:v<2^j):numF (aH v j++r) 0 j=v:=by
 rw[pU _ _ _ (by rw[aL];exact Nat.le_refl _),zR j v h]
theorem lq (j v:Nat) (r:List Bool):(aH v j++r).drop j=r:=by
 have h:=aL v j;rw[List.drop_append_of_le_length oO,List.drop_of_length_le oO,List.nil_append]
theorem Ab (b:List Bool):∀j,j<=b.length->aH (numF b 0 j) j=b.take j
 |0,_=>rfl
 |j+1,h=>by
  have hb:(if b.getD (0+j) false then 1 else 0)<=1:=by split<;>omega
  show aH (2* numF b 0 j+(if b.getD (0+j) false then 1 else 0)) (j+1)=_;rw[pD _ _ _ hb,Ab b j oO,List.take_add_one,List.getElem?_eq_getElem oO,Nat.zero_add];congr 1;rw[List.getD_eq_getElem?_getD,List.getElem?_eq_getElem oO];cases b[j]<;>rfl
def bytesB:List UInt8->List Bool
 |[]=>[]
 |x::l=>aH x.toNat 8++bytesB l
theorem xN:∀l:List UInt8,(bytesB l).length=8* l.length
 |[]=>rfl
 |x::l=>by unfold bytesB;rw[List.length_append,aL,xN l,List.length_cons];omega
theorem ss:∀(l r:List UInt8),bytesB (l++r)=bytesB l++bytesB r
 |[],r=>rfl
 |x::l,r=>by
  show aH x.toNat 8++bytesB (l++r)=(aH x.toNat 8++bytesB l)++bytesB r;rw[ss l r,List.append_assoc]
theorem th (l:List UInt8) (a:Nat):∀k,a+k<=l.length->byF (bA l) a k=bytesB ((l.drop a).take k)
 |0,_=>rfl
 |k+1,h=>by
  show byF (bA l) a k++aH ((bA l).data.toList.getD (a+k) 0).toNat 8=_;rw[th l a k oO,List.take_add_one,List.getElem?_drop,List.getElem?_eq_getElem oO];show _=bytesB (_++[_]);rw[ss];congr 1;show aH (l.getD (a+k) 0).toNat 8=aH _ 8++[];rw[List.append_nil,List.getD_eq_getElem?_getD,List.getElem?_eq_getElem oO];rfl
theorem qe:∀(u:List UInt8) (r:List Bool) (out:List UInt8),byRes u.length (bytesB u++r) out=(0,r,out++u)
 |[],r,out=>by show(0,r,out)=_;rw[List.append_nil]
 |x::u,r,out=>by
  show(if(bytesB (x::u)++r).length<8 then _ else byRes u.length ((bytesB (x::u)++r).drop 8) (out++[UInt8.ofNat (numF (bytesB (x::u)++r) 0 8)]))=_;rw[if_neg (by rw[List.length_append,xN,List.length_cons];omega)];have e:bytesB (x::u)++r=aH x.toNat 8++(bytesB u++r):=by
   show(aH x.toNat 8++bytesB u)++r=_;rw[List.append_assoc]
  rw[e,lq,eO 8 _ _ (UInt8.toNat_lt x),UInt8.ofNat_toNat,qe u r];rw[List.append_assoc];rfl
theorem Mp:∀m,m<5->∀n,n<32->bV m n≠0->n<2^an m:=of_decide_eq_true oK
theorem xE {l:List UInt8} {a:Nat} {b:ByteArray} (h:preB (bA l) a b=true):(l.drop a).take b.size=b.data.toList:=by
 rw[Le]at h;unfold Lib.hasPrefix at h;rw[List.isPrefixOf_iff_prefix]at h;have e:b.size=b.data.toList.length:=by simp
 rw[e];exact(List.prefix_iff_eq_take.1 h).symm
theorem Atom.dec {l:List UInt8} {a m:Nat} {f:az} (i:m<5) (h:Atom (bA l) a m f) (r:List Bool) (out:List UInt8):
 bw m (cf (bA l) a m f++r) out=(0,r,out++(l.drop a).take (f.at_-a),f.mode):=by
 have t:=km m;have key:∀(n:Nat) (x:List Bool),n<32->bV m n≠0->bw m (aH n (an m)++x) out=sC m n x out:=by
  intro n x hn b;unfold bw;rw[if_neg (by rw[List.length_append,aL];omega),eO _ _ _ (Mp m i n hn b),lq]
 cases h with
 |chars n hn b g=>
  show bw m (((aH n (an m)++(if(0:Int)<=-1 then aH (-1:Int).toNat 5 else[]))++[])++r) out=(0,r,out++(l.drop a).take (a+(eJ m n).size-a),m);rw[if_neg oO,List.append_nil,List.append_nil,key n r hn oO,Nat.add_sub_cancel_left,xE g];unfold sC;rw[if_pos b]
 |nh n hn b=>
  show bw m (((aH n (an m)++(if(0:Int)<=-1 then aH (-1:Int).toNat 5 else[]))++[])++r) out=(0,r,out++(l.drop a).take (a-a),modeF m n);rw[if_neg oO,List.append_nil,List.append_nil,key n r hn oO,Nat.sub_self];unfold sC;rw[if_neg oO,if_pos b,List.take_zero,List.append_nil]
 |shift n s hn b hs q g=>
  have o:=xr m i n hn b;show bw m (((aH n (an m)++(if(0:Int)<=(s:Int)then aH (s:Int).toNat 5 else[]))++[])++r) out=(0,r,out++(l.drop a).take (a+(eJ (modeF m n) s).size-a),m);rw[if_pos oO,List.append_nil,List.append_assoc,key n _ hn oO,Nat.add_sub_cancel_left,xE g];unfold sC;rw[if_neg oO,if_neg oO,if_pos b];unfold fp;rw[o,Int.toNat_natCast,if_neg (by rw[List.length_append,aL];omega),eO 5 s r oO,if_pos q,lq]
 |short n j hn b k p c=>
  rw[fA]at c;show bw m (((aH n (an m)++(if(0:Int)<=-1 then aH (-1:Int).toNat 5 else[]))++lT (bA l) a ⟨n,-1,j,false,an m+5+8* j,a+j,m⟩)++r) out=(0,r,out++(l.drop a).take (a+j-a),m);rw[if_neg oO,List.append_nil,List.append_assoc,key n _ hn oO,Nat.add_sub_cancel_left];unfold lT;rw[if_pos (by show 0<j;omega),if_neg oS];show sC m n ((aH j 5++byF (bA l) a j)++r) out=_;rw[List.append_assoc];unfold sC;rw[if_neg oO,if_neg oO,if_neg oO,if_pos b];have e:cP (aH j 5++(byF (bA l) a j++r)) out=(0,r,out++(l.drop a).take j):=by
   unfold cP;rw[if_neg (by rw[List.length_append,aL];omega),eO 5 j _ oO,lq,if_neg oO,th l a j c];have hl:((l.drop a).take j).length=j:=by rw[List.length_take,List.length_drop];omega
   have d:=qe ((l.drop a).take j) r out;rw[hl]at d;exact d
  rw[e]
 |long n j hn b k p c=>
  rw[fA]at c;show bw m (((aH n (an m)++(if(0:Int)<=-1 then aH (-1:Int).toNat 5 else[]))++lT (bA l) a ⟨n,-1,j,true,an m+16+8* j,a+j,m⟩)++r) out=(0,r,out++(l.drop a).take (a+j-a),m);rw[if_neg oO,List.append_nil,List.append_assoc,key n _ hn oO,Nat.add_sub_cancel_left];unfold lT;rw[if_pos (by show 0<j;omega),if_pos rfl];show sC m n (((aH 0 5++aH (j-31) 11)++byF (bA l) a j)++r) out=_;rw[List.append_assoc,List.append_assoc];unfold sC;rw[if_neg oO,if_neg oO,if_neg oO,if_pos b];have e:cP (aH 0 5++(aH (j-31) 11++(byF (bA l) a j++r))) out=(0,r,out++(l.drop a).take j):=by
   unfold cP;rw[if_neg (by rw[List.length_append,aL];omega),eO 5 0 _ oO,lq,if_pos rfl,if_neg (by rw[List.length_append,aL];omega),eO 11 _ _ oO,lq,th l a j c,Nat.sub_add_cancel k];have hl:((l.drop a).take j).length=j:=by rw[List.length_take,List.length_drop];omega
   have d:=qe ((l.drop a).take j) r out;rw[hl]at d;exact d
  rw[e]
theorem AS {b:List Bool} (h:12<=b.length):gX b=false:=by unfold gX;rw[decide_eq_false oO];rfl
theorem BA {b:List Bool} (h:b.all id=false):gX b=false:=by unfold gX;rw[h,Bool.and_false]
theorem fE {x r:List Bool} (h:x.all id=false):(x++r).all id=false:=by rw[List.all_append,h];rfl
theorem rQ:∀m,m<5->∀n,n<32->bV m n≠0->(aH n (an m)).all id=false\/bV m n=4\/(bV m n=2/\m=3/\modeF m n=0)\/(bV m n=3/\modeF m n=0):=of_decide_eq_true oK
theorem GG:∀n,n<32->bV 0 n=1->(aH n 5).all id=false:=of_decide_eq_true oK
theorem Atom.GX {p:ByteArray} {a m:Nat} {b:az} (d:m<5) (h:Atom p a m b):(cf p a m b).all id=false\/12<=(cf p a m b).length\/(m=3/\b.mode=0/\b.at_=a):=by
 have l:=km m;cases h with
 |chars n hn c g=>
  rcases rQ m d n hn oO with h|h|h|h
  ·exact .inl (fE (fE h))
  ·omega
  ·omega
  ·omega
 |nh n hn c=>
  rcases rQ m d n hn oO with h|h|h|h
  ·exact .inl (fE (fE h))
  ·omega
  ·exact .inr (.inr ⟨h.2.1,h.2.2,rfl⟩)
  ·omega
 |shift n s hn c hs f g=>
  rcases rQ m d n hn oO with h|h|h|h
  ·exact .inl (fE (fE h))
  ·omega
  ·omega
  ·rw[h.2]at f;have e:=GG s hs f;left;show((aH n (an m)++(if(0:Int)<=(s:Int)then aH (s:Int).toNat 5 else[]))++[]).all id=false;rw[if_pos oO,Int.toNat_natCast,List.append_nil,List.all_append,e,Bool.and_false]
 |short n j hn c i e k=>
  right;left;show 12<=((aH n (an m)++(if(0:Int)<=-1 then aH (-1:Int).toNat 5 else[]))++lT p a ⟨n,-1,j,false,an m+5+8* j,a+j,m⟩).length;unfold lT;rw[if_neg oO,if_pos (by show 0<j;omega),if_neg oS];simp only[List.length_append,aL,oq,List.length_nil];omega
 |long n j hn c i e k=>
  right;left;show 12<=((aH n (an m)++(if(0:Int)<=-1 then aH (-1:Int).toNat 5 else[]))++lT p a ⟨n,-1,j,true,an m+16+8* j,a+j,m⟩).length;unfold lT;rw[if_neg oO,if_pos (by show 0<j;omega),if_pos rfl];simp only[List.length_append,aL,oq,List.length_nil];omega
theorem pF {p:ByteArray} {c:Nat->Nat->Option az} {f a m:Nat} {b:az} (d:a<p.size) (h:c a m=some b):fZ p c (f+1) a m=cf p a m b++fZ p c f b.at_ b.mode:=by
 show(if a<p.size then(match c a m with|some b=>cf p a m b++fZ p c f b.at_ b.mode|none=>[])else[])=_;rw[if_pos d,h]
theorem AP {p:ByteArray} {b:Nat->Nat->Option az} {f a m:Nat} (c:p.size<=a):fZ p b f a m=[]:=by
 cases f with
 |zero=>rfl
 |succ f=>
  show(if a<p.size then _ else[])=[];rw[if_neg oO]
theorem cj.uc {p:ByteArray} {C:Nat->Nat->Nat} (f:p.size<=4096) (h:cj p C) (a m:Nat) (c:a<p.size) (d:m<5):∃b,cG C p a m=some b/\Atom p a m b/\b.bI C=C a m/\(cf p a m b).length=b.size:=by
 obtain⟨b,g,e,i⟩:=h.step f a m c d;exact⟨b,g,zP c e,i.eq.symm,(Et c d 32 (Nat.le_refl _) e).ln⟩
theorem JU {p:ByteArray} {C:Nat->Nat->Nat} (g:p.size<=4096) (h:cj p C):∀f a m,m<5->C a m<=f->(fZ p (cG C p) f a m).length=C a m:=by
 intro f
 induction f with
 |zero=>
  intro a m b i;have:C a m=0:=oO;rw[this];rfl
 |succ f j=>
  intro a m b i;by_cases c:a<p.size
  ·obtain⟨n,k,d,e,l⟩:=h.uc g a m c b;have o:=d.size_pos;rw[pF c k,List.length_append,l,j _ _ (d.Ek b) (by unfold az.bI at e;omega)];exact e
  ·rw[AP oO,h.zero a m oO];rfl
theorem r7 {p:ByteArray} {C:Nat->Nat->Nat} (a:p.size<=4096) (h:cj p C):(pX p C).length=C 0 0:=JU a h _ 0 0 oO (Nat.le_refl _)
theorem Fc {p:ByteArray} {C:Nat->Nat->Nat} (g:p.size<=4096) (h:cj p C) (f a m:Nat) (i:m<5) (t:C a m<=f) (c:a<p.size) (r:List Bool):gX (fZ p (cG C p) f a m++r)=false:=by
 obtain⟨s,n,j,k,u⟩:=h.uc g a m c i;have x:=j.size_pos;unfold az.bI at k;obtain⟨f,rfl⟩:∃d,f=d+1:=⟨f-1,by omega⟩;rw[pF c n,List.append_assoc];rcases j.GX i with b|b|b
 ·exact BA (fE b)
 ·exact AS (by rw[List.length_append];omega)
 ·obtain⟨v,o,l,q,w⟩:=h.uc g a 0 c oO;have y:=l.size_pos;rw[b.2.2,b.2.1]at k⊢;unfold az.bI at q;obtain⟨f,rfl⟩:∃d,f=d+1:=⟨f-1,by omega⟩;rw[pF c o,List.append_assoc];rcases l.GX oO with e|e|e
  ·refine BA ?_;rw[List.all_append,fE e,Bool.and_false]
  ·exact AS (by rw[List.length_append,List.length_append];omega)
  ·omega
theorem za (k:Nat) (a:k<=11):gX (List.replicate k true)=true:=by
 unfold gX;rw[decide_eq_true (by rw[List.length_replicate];omega)];simp
theorem BQ {F m:Nat} {b:List Bool} {out:List UInt8} (h:gX b=true):decF (F+1) m b out=(out,0):=by
 unfold decF;rw[if_pos h]
theorem Ip {F m:Nat} {b:List Bool} {out:List UInt8} {e:Int} {b':List Bool} {c:List UInt8} {a:Nat} (h:gX b=false) (d:bw m b out=(e,b',c,a)) (f:e=0):decF (F+1) m b out=decF F a b' c:=by
 show(if gX b=true then(out,(0:Int))else if(bw m b out).1=0 then decF F (bw m b out).2.2.2 (bw m b out).2.1 (bw m b out).2.2.1 else([],(bw m b out).1))=_;rw[h,d,if_neg oS];exact if_pos f
theorem Mn {l:List UInt8} {C:Nat->Nat->Nat} (o:l.length<=4096) (h:cj (bA l) C) (k:Nat) (p:k<=11):∀f a m F out,m<5->a<=l.length->C a m<=f->C a m<F->
 decF F m (fZ (bA l) (cG C (bA l)) f a m++List.replicate k true) out=(out++l.drop a,0):=by
 intro f
 induction f with
 |zero=>
  intro a m F out d u q hF;obtain⟨F,rfl⟩:∃i,F=i+1:=⟨F-1,by omega⟩;have n:a=l.length:=by
   rcases Nat.lt_or_ge a l.length with g|g
   ·obtain⟨b,_,c,j,_⟩:=h.uc (by rw[fA];exact o) a m (by rw[fA];exact g) d;have:=c.size_pos;unfold az.bI at j;omega
   ·omega
  subst n;rw[show fZ (bA l) (cG C (bA l)) 0 l.length m=[]from rfl,List.nil_append,BQ (za k p),List.drop_length,List.append_nil]
 |succ f v=>
  intro a m F out d u q hF;obtain⟨F,rfl⟩:∃i,F=i+1:=⟨F-1,by omega⟩;by_cases w:a<l.length
  ·have s:(bA l).size<=4096:=by rw[fA];exact o
   have has:a<(bA l).size:=by rw[fA];exact w
   obtain⟨b,g,c,j,y⟩:=h.uc s a m has d;have z:=c.size_pos;have x:=Fc s h (f+1) a m d q has (List.replicate k true);have t:=c.Nw has;have A:=c.Nz;rw[fA]at t;unfold az.bI at j;have r:=c.dec d (fZ (bA l) (cG C (bA l)) f b.at_ b.mode++List.replicate k true) out;rw[<-List.append_assoc,<-pF has g]at r;rw[Ip x r rfl,v b.at_ b.mode F _ (c.Ek d) t oO oO,List.append_assoc];have e:l.drop b.at_=(l.drop a).drop (b.at_-a):=by rw[List.drop_drop,show a+(b.at_-a)=b.at_ from by omega]
   rw[e,List.take_append_drop]
  ·have n:a=l.length:=oO;subst n;rw[AP (by rw[fA];exact Nat.le_refl _),List.nil_append];rw[BQ (za k p),List.drop_length,List.append_nil]
theorem IL {l:List UInt8} {C:Nat->Nat->Nat} (a:l.length<=4096) (h:cj (bA l) C) (k:Nat) (d:k<=11):dJ (pX (bA l) C++List.replicate k true)=(l,0):=by
 have c:(pX (bA l) C).length=C 0 0:=r7 (by rw[fA];exact a) h;have e:=h.up 0;rw[fA]at e;unfold dJ;rw[if_neg (by rw[List.length_append,c,List.length_replicate];omega)];have b:=Mn a h k d (C 0 0) 0 0 ((pX (bA l) C++List.replicate k true).length+1) [] oO oO (Nat.le_refl _) (by rw[List.length_append,c];omega);rw[List.nil_append,List.drop_zero]at b;exact b
theorem Fw {l:List UInt8} {C:Nat->Nat->Nat} (b:l.length<=2078) (h:KP (bA l) C):C 0 0<=8* l.length+21:=by
 have hs:=fA l;have KQ:bV 0 31=4:=oK;have w0:an 0=5:=rfl;by_cases c:0<l.length
 ·by_cases d:l.length<=31
  ·have a:=h.le 0 0 oO oO _ (Atom.short 31 l.length oO KQ c d oO);have e:C (0+l.length) 0=0:=h.zero _ _ oO;have f:C 0 0<=an 0+5+8* l.length+C (0+l.length) 0:=a;omega
  ·have a:=h.le 0 0 oO oO _ (Atom.long 31 l.length oO KQ oO b oO);have e:C (0+l.length) 0=0:=h.zero _ _ oO;have f:C 0 0<=an 0+16+8* l.length+C (0+l.length) 0:=a;omega
 ·rw[h.zero 0 0 oO];omega
theorem SR.NN {α:Type} {f:α->Value} {d:α} (W:World) (xs:List α) (a:TypeId) (b:Nat×Nat) (n:Nat) (hn:n=xs.length) (c:n<=maxLen):SR f d (W.alloc (.cells (xs.map f).toArray a b)) (some ⟨W.heap.size,0,none⟩) n n xs:=by
 refine⟨hn,Nat.le_refl _,c,λ_=>⟨_,rfl,by simp,λj e=>?_⟩⟩;rw[add_plain,Nat.zero_add,World.cell?_alloc_mark];simp[List.getD,e]
theorem sZ {P:Program} {c:Array Oper} {d:List Oper} {b:Oper} {a:Act} {Q:Exit->Act->World->Prop} {w:World} {v:Value} (i:Region.wanted b (yielded c a.tmps)=true) (e:(execOp a.eval b).run P w= .ok (.value v) w) (f:wpList P c Q d (a.put b.dst v) w):wpList P c Q (b::d) a w:=by
 refine wpList_step λK g=>?_;simp only[i,if_true];unfold Oper.wp;rw[e];exact g _ _ f
end
section
open Go.ChangeShapes Go.WideShapes Go.ChangeAt Go.RowKit
theorem Gz {H:Type} {enc:TypeId×Value->H} {P:Program} (hl:laidOutB P=true) {W i:World} (hb:Below W.heap.size W i):
 ∀(e:List TypeId) (c:List Value) (a:List (DataW H)) (ps:List MemPlace),(∀f∈e,P.readableRec f=true/\f<P.types.size)->
  DataW.TrodAll enc P W 0 (λ_=>true) true e c a ps->(∀x∈ps,x.block<W.heap.size)->
  DataW.TrodAll enc P i 0 (λb=>decide (b<W.heap.size)) true e c a ps:=by
 intro e
 induction e with
 |nil=>
  intro c a ps _ h _;cases c<;>cases a<;>first|exact h|exact h.elim
 |cons f e m=>
  intro c a ps j h l;cases c with
  |nil=>cases a<;>exact h.elim
  |cons v c=>
   cases a with
   |nil=>exact h.elim
   |cons d a=>
    obtain⟨p,q,n,o,rfl⟩:=h;have k:=j f oS;exact⟨p,q,Below.trod hl k.1 k.2 n hb (λx g=>l x (by simp[g])),m c a q (λr s=>j r (by simp[s])) o (λx g=>l x (by simp[g])),rfl⟩
theorem IM {H:Type} {enc:TypeId×Value->H} {P:Program} (hl:laidOutB P=true) {f:Func} {s:ChangeSpec} {W e:World} {args:Array Value} {a b:List (DataW H)} {o:List MemPlace} {B:TypeId}
 (hB:P.underlying B=some .bool) (m:f.resultTypes=#[B]) (n:s.vars=[]) (k:∀d∈f.params.toList,P.readableRec d=true/\d<P.types.size)
 (c:DataW.Whole enc P f.params.toList s.vars false W args.toList a b o)
 (hs:s.fn H (a++b)={results:=[.lit (.bool true)],args:=a}) (hb:Below W.heap.size W e):
 s.post enc P f false true false false W args (.bool true) e:=by
 have l:=c.lt;obtain⟨p,q,i,g,rfl,r,t⟩:=id c;refine⟨a,b,p++q,[],p,q,c,?_,?_,?_,hb.frame _,λh=>by cases h⟩
 ·rw[hs,m];exact trodAll_cons_mk (shut_bool hB _) trodAll_mk0
 ·rw[hs];exact Gz hl hb _ _ _ _ k i (λx j=>l x (by simp[j]))
 ·rw[hs];rw[n]at g⊢;obtain⟨rfl,rfl⟩:=trodVars_none g;rfl
theorem EJ {w:World} {a:Addr} {v:Value} (h:w.cell? a=some v):a.block<w.heap.size:=by
 rcases Nat.lt_or_ge a.block w.heap.size with b|b
 ·exact b
 ·unfold World.cell? at h;rw[Array.getElem?_eq_none b]at h;cases h
theorem Nq {a:Int} (h:(Lit.int .u8 a).wf=true):0<=a/\a<=255:=by
 simpa[Lit.wf,IntKind.min,IntKind.max,IntKind.signed,IntKind.bits]using h
theorem SR.MQ {α:Type} {f:α->Value} {d:α} (W:World):SR f d W none 0 0 []:=⟨rfl,Nat.le_refl _,Nat.zero_le _,RG.dI _ _⟩
theorem JV {H:Type} {enc:TypeId×Value->H} {W:World} {b0:Nat} {r:Reach} {v:Value} {d:DataW H} {p:List MemPlace}
 (k:Value.okWide Tryz.prog W r b0 22 v) (h:DataW.Trod enc Tryz.prog W 0 (λ_=>true) true 22 v d p):∃A n c l,v= .slice A n c/\SR vU 0 W A n c l:=by
 obtain⟨x,g,w,rfl⟩:=okWide_slice Tryz.underlying22 k;obtain⟨B,m⟩:=h;rcases open_ints Tryz.underlying22 Tryz.underlying5 oK m with⟨e,_⟩|⟨a,len,cap,b,e,_,hl,o,q,y,i,u⟩
 ·simp[Value.cells]at e;obtain⟨rfl,rfl,rfl⟩:=e;exact⟨none,0,0,[],rfl,SR.MQ _⟩
 ·simp[Value.cells]at e;obtain⟨rfl,rfl,rfl⟩:=e;simp only[if_true]at q;refine⟨some a,g,w,(b.take g).map (λz=>UInt8.ofNat z.toNat),rfl,⟨by simp;omega,hl,o,λhn=>?_⟩⟩;simp only[List.length_map,List.length_take]at hn;have s:=i 0 oO;refine⟨a,rfl,by have:=EJ s;rw[aJ]at this;exact this,λj t=>?_⟩;simp only[List.length_map,List.length_take]at t;rw[i j oO];have f:j<b.length:=oO;have e1:b.getD j 0=b[j]:=by simp[List.getD,f]
  have e2:((b.take g).map (λz=>UInt8.ofNat z.toNat)).getD j 0=UInt8.ofNat (b[j]).toNat:=by
   rw[List.getD_eq_getElem?_getD,List.getElem?_map,List.getElem?_take_of_lt oO,List.getElem?_eq_getElem f];rfl
  rw[e1,e2];have hb:=Nq (u _ (List.getElem_mem f));show some (Value.int .u8 b[j])=some (Value.int .u8 _);rw[UInt8.toNat_ofNat',Nat.mod_eq_of_lt oO,Int.toNat_of_nonneg hb.1]
theorem NL:ownKnob Tryz.prog.godebug=none:=oK
theorem Nv:laidOutB Tryz.prog=true:=oK
theorem I9 {H:Type} {enc:TypeId×Value->H} {W:World} {b0:Nat} {r:Reach} {v:Value} {d:DataW H} {p:List MemPlace}
 (b:Value.okWide Tryz.prog W r b0 24 v) (h:DataW.Trod enc Tryz.prog W 0 (λ_=>true) true 24 v d p):∃(x:Int) (y:Bool) (z:Int),v= .agg #[.int .i64 x,.bool y,.int .i64 z]:=by
 obtain⟨v0,v1,g,i,j,k,n,rfl,-,-,c,e,f⟩:=Joins.open_agg3 Tryz.underlying24 oK oK b h;obtain⟨x,a,-,-⟩:=DataW.trod_int Tryz.underlying3 c;obtain⟨y,e1,-⟩:=DataW.trod_bool Tryz.underlying4 e;obtain⟨z,e2,-,-⟩:=DataW.trod_int Tryz.underlying3 f;injection a with a;injection e1 with e1;injection e2 with e2;subst a e1 e2;exact⟨x,y,z,rfl⟩
theorem Iq {a:Int} (h:(Lit.int .u16 a).wf=true):0<=a/\a<=65535:=by
 simpa[Lit.wf,IntKind.min,IntKind.max,IntKind.signed,IntKind.bits]using h
abbrev vH:Nat->Value:=λx=>Value.int .u16 (x:Int)
theorem Jh {H:Type} {enc:TypeId×Value->H} {W:World} {b0:Nat} {r:Reach} {v:Value} {d:DataW H} {p:List MemPlace}
 (o:Value.okWide Tryz.prog W r b0 39 v) (h:DataW.Trod enc Tryz.prog W 0 (λ_=>true) true 39 v d p):∃A n c l,v= .slice A n c/\(SR vH 0 W A n c l/\∀x∈l,x<=65535):=by
 obtain⟨C,i,B,rfl⟩:=okWide_slice Tryz.underlying39 o;obtain⟨D,q⟩:=h;rcases open_ints Tryz.underlying39 Tryz.underlying45 oK q with⟨e,_⟩|⟨a,len,cap,b,e,_,hl,s,t,f,m,k⟩
 ·simp[Value.cells]at e;obtain⟨rfl,rfl,rfl⟩:=e;exact⟨none,0,0,[],rfl,SR.MQ _,λx f=>by cases f⟩
 ·simp[Value.cells]at e;obtain⟨rfl,rfl,rfl⟩:=e;simp only[if_true]at t;refine⟨some a,i,B,(b.take i).map Int.toNat,rfl,⟨by simp;omega,hl,s,λhn=>?_⟩,λx f=>?_⟩
  ·simp only[List.length_map,List.length_take]at hn;have u:=m 0 oO;refine⟨a,rfl,by have:=EJ u;rw[aJ]at this;exact this,λj w=>?_⟩;simp only[List.length_map,List.length_take]at w;rw[m j oO];have g:j<b.length:=oO;have e1:b.getD j 0=b[j]:=by simp[List.getD,g]
   have e2:((b.take i).map Int.toNat).getD j 0=(b[j]).toNat:=by
    rw[List.getD_eq_getElem?_getD,List.getElem?_map,List.getElem?_take_of_lt oO,List.getElem?_eq_getElem g];rfl
   rw[e1,e2];have hb:=Iq (k _ (List.getElem_mem g));show some (Value.int .u16 b[j])=some (Value.int .u16 _);rw[Int.toNat_of_nonneg hb.1]
  ·obtain⟨z,y,rfl⟩:=List.mem_map.1 f;have hb:=Iq (k _ (List.mem_of_mem_take y));omega
end
theorem cE {a b:Bool} (h:a=true) (g:b=true):(a&&b)=true:=by rw[h,g];rfl
theorem LN:laidOutB Tryz.prog=true:=oK
theorem CN:mapsRowed Tryz.prog=true:=oK
theorem Km:(Tryz.prog.stops==[])=true:=oK
theorem Bn:(Tryz.prog.stopKnobs==[])=true:=oK
theorem As:Tryz.prog.stopsHeard=true:=oK
theorem Dt:Tryz.prog.mayEnter=true:=oK
end Go.Proofs.YtmnlkganmgcpbaaGreatDoor
