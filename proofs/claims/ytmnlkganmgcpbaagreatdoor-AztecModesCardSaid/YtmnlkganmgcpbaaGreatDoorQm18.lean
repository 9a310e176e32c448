import Derived.Test.YtmnlkganmgcpbaaGreatDoorQm16
set_option maxRecDepth 100000
set_option maxHeartbeats 4000000
set_option linter.unusedVariables false
set_option linter.unusedSectionVars false
set_option linter.unusedSimpArgs false
namespace Go.Proofs.YtmnlkganmgcpbaaGreatDoor
section
open Go.RowKit
abbrev Pt:=Nat×Nat
def eS (p:Pt):List Value:=[.int .i64 (p.1:Int),.int .i64 (p.2:Int)]
theorem KC (p:Pt):∀v∈eS p,v.oneCell'=true:=by
 intro v a;simp only[eS,List.mem_cons,List.not_mem_nil,or_false]at a;rcases a with rfl|rfl<;>rfl
theorem Iz (l:List Pt):∀v∈l.flatMap eS,v.oneCell'=true:=by
 intro v a;obtain⟨p,-,b⟩:=List.mem_flatMap.1 a;exact KC p v b
theorem tP (l:List Pt):(l.flatMap eS).length=l.length* 2:=by
 induction l with
 |nil=>rfl
 |cons p l a=>simp only[List.flatMap_cons,List.length_append,a,List.length_cons];show 2+_=_;omega
theorem BM (l:List Pt) (i:Nat) (a:i<l.length):(l.flatMap eS)[2* i]?=some (.int .i64 ((l.getD i (0,0)).1:Int))/\(l.flatMap eS)[2* i+1]?=some (.int .i64 ((l.getD i (0,0)).2:Int)):=by
 induction l generalizing i with
 |nil=>simp at a
 |cons p l b=>
  cases i with
  |zero=>exact⟨rfl,rfl⟩
  |succ i=>
   have h:=b i (by simpa using a);simp only[List.flatMap_cons,eS];rw[show 2* (i+1)=2* i+2 from by omega];simp only[List.cons_append,List.nil_append,List.getElem?_cons_succ,List.getD_cons_succ];exact h
theorem rM:(Tryz.prog.info? 47).map (λi=>(i.zero,i.size,i.bytes))=some (some (.agg #[.int .i64 0,.int .i64 0]),2,16):=oK
def JW (w:World) (A:Option Addr) (xs:List Pt):Prop:=0<xs.length->∃g a,A=some ⟨g,a,none⟩/\g<w.heap.size/\∀j,j<xs.length->w.cell? ⟨g,a+j* 2,none⟩=some (.int .i64 ((xs.getD j (0,0)).1:Int))/\w.cell? ⟨g,a+j* 2+1,none⟩=some (.int .i64 ((xs.getD j (0,0)).2:Int))
theorem JW.below {W a:World} {A:Option Addr} {xs:List Pt} (h:JW W A xs) (hb:Below W.heap.size W a):JW a A xs:=λhn=>by
 obtain⟨g,c,e,hl,hc⟩:=h hn;exact⟨g,c,e,Nat.lt_of_lt_of_le hl hb.size,λj b=>⟨(hb.cell hl).trans (hc j b).1,(hb.cell hl).trans (hc j b).2⟩⟩
def SP (w:World) (v:Value) (xs:List Pt):Prop:=∃A c,v= .slice A xs.length c/\xs.length<=c/\c<=maxLen/\JW w A xs
theorem SP.below {W a:World} {v:Value} {xs:List Pt} (h:SP W v xs) (hb:Below W.heap.size W a):SP a v xs:=by
 obtain⟨A,c,rfl,b,d,e⟩:=h;exact⟨A,c,rfl,b,d,e.below hb⟩
theorem SP.dR (w:World):SP w (.slice none 0 0) []:=⟨none,0,rfl,by simp,by simp,λh=>absurd h oS⟩
theorem SP.bK {W:World} {base:Nat} {e:TypeId} {n:Nat} {v:Value} {xs:List Pt} (h:W.ownsRow base e 2 v n (xs.flatMap eS)):SP W v xs:=by
 have hl:xs.length=n:=by have:=h.1;rw[tP]at this;omega
 rcases h.2 with⟨rfl,rfl⟩|⟨g,cap,d,rfl,hb,hg,f,oZ,_⟩
 ·have:xs=[]:=List.eq_nil_of_length_eq_zero hl;subst this;exact SP.dR _
 ·refine⟨_,cap,by rw[hl],by omega,oZ,λhn=>⟨g,0,rfl,ar hg,λj c=>?_⟩⟩;have a:=BM xs j c;have e:0+j* 2=2* j:=oO;have c1:=h.cells (g:=g) rfl (2* j) _ a.1;have b:=h.cells (g:=g) rfl (2* j+1) _ a.2;rw[add_plain,Nat.zero_add]at c1 b;rw[e];exact⟨c1,b⟩
structure dj (w wr:World) (v:Value) (l:List Pt):Prop where
 B:af w wr
 O:wr.ownsRow w.heap.size 47 2 v l.length (l.flatMap eS)
theorem wE {W:World} {base:Nat} {v:Value} {n:Nat} {l:List Pt} (d:TypeId) (f:W.ownsRow base 47 2 v n (l.flatMap eS)) (w:base<=W.heap.size) (b:Addr) (m c:Nat) (ys:List Pt) (g:m=ys.length)
 (hc:∀j u,(ys.flatMap eS)[j]?=some u->W.cell? (b.add j)=some u) (hl:n+m<=1000000):
 ∃a w',(Builtin.append_ #[40,40] d #[v,.slice (some b) m c]).run Tryz.prog W= .ok a w'/\w'.ownsRow base 47 2 a (n+m) ((l++ys).flatMap eS)/\W.grownBy w' v.ownBlock/\(a.ownBlock=v.ownBlock\/a.ownBlock=some W.heap.size):=by
 obtain⟨i,k,q,r,s⟩:=info_parts rM;obtain⟨a,w',t,e,o,_,p⟩:=run_append_own_at (P:=Tryz.prog) W base 40 d 47 i _ 2 16 Tryz.underlying40 k q r s rfl oO v n _ f b m c (ys.flatMap eS) (by rw[tP,g]) hc (Iz ys) oM oO w;rw[<-List.flatMap_append]at e;exact⟨a,w',t,e,o,p⟩
theorem iS {f:Array Oper} {g:List Oper} {d:Oper} {a:Act} {Q:Exit->Act->World->Prop} {W:World} {base:Nat} {v:Value} {n:Nat} {l:List Pt} (i:W.ownsRow base 47 2 v n (l.flatMap eS)) (B:base<=W.heap.size) (z:d.guard=none) (s y:Operand)
 (k:d.op= .call {callee:= .builtin .append,args:=#[s,y],argTypes:=#[40,40]}) (hs:a.eval s=v) (e:Addr) (m c:Nat) (ys:List Pt) (o:a.eval y= .slice (some e) m c) (p:m=ys.length)
 (hc:∀j u,(ys.flatMap eS)[j]?=some u->W.cell? (e.add j)=some u) (hl:n+m<=1000000)
 (q:∀b w',w'.ownsRow base 47 2 b (n+m) ((l++ys).flatMap eS)->W.grownBy w' v.ownBlock->(b.ownBlock=v.ownBlock\/b.ownBlock=some W.heap.size)->wpList Tryz.prog f Q g (a.put d.dst b) w'):wpList Tryz.prog f Q (d::g) a W:=by
 refine wpList_plain z λK r=>?_;obtain⟨b,w',A,t,w,x⟩:=wE d.type i B e m c ys p hc hl;unfold Oper.wp execOp;simp only[k,resolve,invoke,builtin,Sem.run_bind,Sem.run_pure,Result.andThen_ok,List.map_toArray,List.map_cons,List.map_nil,hs,o,A];exact r _ _ (q b w' t w x)
theorem dj.grow {w wr W a:World} {v v1:Value} {l ys:List Pt} (h:dj w wr v l) (b:Below wr.heap.size wr W) (d:a.ownsRow w.heap.size 47 2 v1 (l.length+ys.length) ((l++ys).flatMap eS)) (hg:W.grownBy a v.ownBlock):dj w a v1 (l++ys):=by
 refine⟨(aa h.B b).grown hg (by have:=(aa h.B b).size;exact this) (λk c=>(h.O.lt k c).1),?_⟩;rw[List.length_append];exact d
theorem gh (W:World) (ys:List Pt) (t:TypeId):∀j u,(ys.flatMap eS)[j]?=some u->(W.alloc (.cells (ys.flatMap eS).toArray t)).cell? ((⟨W.heap.size,0,none⟩:Addr).add j)=some u:=by
 intro j u a;have b:j<(ys.flatMap eS).length:=by
  rcases Nat.lt_or_ge j (ys.flatMap eS).length with h|h
  ·exact h
  ·rw[List.getElem?_eq_none h]at a;cases a
 rw[add_plain,Nat.zero_add];have:=(an.new W (ys.flatMap eS).toArray t W.heap.size rfl).2 j (by simpa using b);rw[this];simp only[List.toList_toArray,List.getD,a,Option.getD_some]
def bB (L:Nat) (c:Bool) (i:Nat):Nat:=
 if c=true then i else if i<aJ L c/2 then(aD L c-1)/2-1-(aJ L c/2-1-i)-(aJ L c/2-1-i)/15 else(aD L c-1)/2+1+(i-aJ L c/2)+(i-aJ L c/2)/15
theorem Ku {L i:Nat} (c:L<=32) (a:i<aJ L false/2):((bB L false i:Nat):Int)=((aD L false:Int)-1)/2-1-((aJ L false:Int)/2-1-i)-((aJ L false:Int)/2-1-i)/15:=by
 have hb:aJ L false=14+4* L:=rfl;have hs:aD L false=aJ L false+1+2* ((aJ L false/2-1)/15):=rfl;unfold bB;simp only[Bool.false_eq_true,if_false];rw[if_pos a];generalize aD L false=b at*;generalize aJ L false=B at*;omega
theorem Lf {L i:Nat} (c:L<=32) (a:¬i<aJ L false/2):((bB L false i:Nat):Int)=((aD L false:Int)-1)/2+1+((i:Int)-(aJ L false:Int)/2)+((i:Int)-(aJ L false:Int)/2)/15:=by
 have hb:aJ L false=14+4* L:=rfl;have hs:aD L false=aJ L false+1+2* ((aJ L false/2-1)/15):=rfl;unfold bB;simp only[Bool.false_eq_true,if_false];rw[if_neg a];generalize aD L false=b at*;generalize aJ L false=B at*;omega
def rN (L:Nat) (c:Bool) (i:Nat):Nat:=if c=true then 4* (L-i)+9 else 4* (L-i)+12
def JT (L:Nat) (c:Bool) (i s j k:Nat):Pt:=
 if s=0 then(2* i+k,2* i+j)else if s=1 then(2* i+j,aJ L c-1-(2* i+k))else if s=2 then(aJ L c-1-(2* i+k),aJ L c-1-(2* i+j))else(aJ L c-1-(2* i+j),2* i+k)
def MO (L:Nat) (c:Bool) (p:Pt):Pt:=(bB L c p.1,bB L c p.2)
def eR (L:Nat) (c:Bool) (i s j k:Nat):Pt:=MO L c (JT L c i s j k)
def kL (L:Nat) (c:Bool) (i s j k:Nat):List Pt:=(List.range k).map (eR L c i s j)
def jL (L:Nat) (c:Bool) (i s j:Nat):List Pt:=(List.range j).flatMap λj=>kL L c i s j 2
def sL (L:Nat) (c:Bool) (i s:Nat):List Pt:=(List.range s).flatMap λs=>jL L c i s (rN L c i)
def iL (L:Nat) (c:Bool) (i:Nat):List Pt:=(List.range i).flatMap λi=>sL L c i 4
def eX (L:Nat) (c:Bool):List Pt:=iL L c L
theorem DI (L:Nat) (c:Bool) (i s j:Nat):jL L c i s (j+1)=jL L c i s j++kL L c i s j 2:=by unfold jL;rw[List.range_succ,List.flatMap_append,List.flatMap_singleton]
theorem xh (L:Nat) (c:Bool) (i s:Nat):sL L c i (s+1)=sL L c i s++jL L c i s (rN L c i):=by unfold sL;rw[List.range_succ,List.flatMap_append,List.flatMap_singleton]
theorem sT (L:Nat) (c:Bool) (i:Nat):iL L c (i+1)=iL L c i++sL L c i 4:=by unfold iL;rw[List.range_succ,List.flatMap_append,List.flatMap_singleton]
theorem F6 (L:Nat) (c:Bool) (i s j k:Nat):(kL L c i s j k).length=k:=by unfold kL;simp
theorem r5 (L:Nat) (c:Bool) (i s:Nat):∀j,(jL L c i s j).length=2* j
 |0=>rfl
 |j+1=>by rw[DI,List.length_append,r5 L c i s j,F6];omega
theorem mN (L:Nat) (c:Bool) (i:Nat):∀s,(sL L c i s).length=s* (2* rN L c i)
 |0=>by simp[sL]
 |s+1=>by rw[xh,List.length_append,mN L c i s,r5,Nat.add_mul,Nat.one_mul]
theorem EL {L i:Nat} {c:Bool} (h:L<=32):rN L c i<=140:=by unfold rN;split<;>omega
theorem Er {L:Nat} {c:Bool} (h:L<=32):∀i,(iL L c i).length<=i* 1120
 |0=>by simp[iL]
 |i+1=>by
  have a:=Er (c:=c) h i;have b:=EL (i:=i) (c:=c) h;rw[sT,List.length_append,mN];omega
def cK (c:Bool):Nat:=if c=true then 5 else 7
def dd (L:Nat) (c:Bool):Nat:=(aD L c-1)/2
def pY (a b:Nat):Nat:=(a-b)+(b-a)
def rC (C:Nat) (p:Pt):Nat:=max (pY p.1 C) (pY p.2 C)
def jP (W:Nat) (p:Pt):Nat:=p.2* W+p.1
theorem eJ {L i:Nat} {c:Bool} (b:L<=32) (a:i<aJ L c):bB L c i<aD L c:=by
 cases c with
 |true=>unfold bB aD;simpa using a
 |false=>
  have hb:aJ L false=14+4* L:=rfl;have hs:aD L false=aJ L false+1+2* ((aJ L false/2-1)/15):=rfl;rw[hb]at a hs;unfold bB;simp only[Bool.false_eq_true,if_false];rw[hb,hs];split<;>omega
theorem Jb {L i s j k:Nat} {c:Bool} (b:i<L) (a:j<rN L c i) (d:k<2):(JT L c i s j k).1<aJ L c/\(JT L c i s j k).2<aJ L c:=by
 unfold rN at a;unfold JT aJ;cases c<;>simp only[Bool.false_eq_true,if_false,if_true]at a⊢<;>(repeat' split)<;>simp only<;>omega
theorem ID {L:Nat} {c:Bool} {p:Pt} (h:p∈eX L c):∃i s j k,i<L/\s<4/\j<rN L c i/\k<2/\p=eR L c i s j k:=by
 obtain⟨i,a,h⟩:=List.mem_flatMap.1 h;obtain⟨s,hs,h⟩:=List.mem_flatMap.1 h;obtain⟨j,b,h⟩:=List.mem_flatMap.1 h;obtain⟨k,d,h⟩:=List.mem_map.1 h;exact⟨i,s,j,k,List.mem_range.1 a,List.mem_range.1 hs,List.mem_range.1 b,List.mem_range.1 d,h.symm⟩
theorem Dp {L:Nat} {c:Bool} (a:L<=32) {p:Pt} (h:p∈eX L c):p.1<aD L c/\p.2<aD L c:=by
 obtain⟨i,s,j,k,b,hs,d,e,rfl⟩:=ID h;have hb:=Jb (s:=s) b d e;exact⟨eJ a hb.1,eJ a hb.2⟩
theorem x8 {L:Nat} {c:Bool}:∀i,i<=L->(iL L c i).length+16* (i* i)=32* (L* i)+(if c=true then 88* i else 112* i)
 |0,_=>by simp[iL]
 |i+1,h=>by
  have a:=x8 (L:=L) (c:=c) i oO;rw[sT,List.length_append,mN];have e1:(i+1)* (i+1)=i* i+2* i+1:=by rw[Nat.add_mul,Nat.mul_add];omega
  have e2:L* (i+1)=L* i+L:=by rw[Nat.mul_add,Nat.mul_one]
  rw[e1,e2];unfold rN;cases c<;>simp only[Bool.false_eq_true,if_false,if_true]at a⊢<;>omega
theorem Cf (L:Nat) (c:Bool):(eX L c).length=iT L c:=by
 have h:=x8 (c:=c) L (Nat.le_refl _);show(iL L c L).length=_;unfold iT;cases c<;>simp only[Bool.false_eq_true,if_false,if_true]at h⊢<;>rw[Nat.add_mul,Nat.mul_assoc]<;>omega
def bn (c:Bool):List Int:=if c=true then[-3,-2,-1,0,1,2,3]else[-5,-4,-3,-2,-1,1,2,3,4,5]
def nW (C:Nat) (a:Int):Nat:=((C:Int)+a).toNat
def fS (C:Nat) (c:Bool):List Pt:=
 (bn c).map (λa=>(nW C a,C-cK c))++(bn c).map (λa=>(C+cK c,nW C a))++(bn c).reverse.map (λa=>(nW C a,C+cK c))++(bn c).reverse.map (λa=>(C-cK c,nW C a))
def cO (C s:Nat):List Pt:=[(C-s,C-s),(C-s+1,C-s),(C-s,C-s+1),(C+s,C-s),(C+s,C-s+1),(C+s,C+s-1)]
def cJ (C s:Nat):List Pt:=[(C+s-1,C-s),(C+s,C+s),(C+s-1,C+s),(C-s,C+s),(C-s+1,C+s),(C-s,C+s-1)]
theorem Al {L:Nat} {c:Bool} (a:1<=L) (b:L<=32):cK c+2<=dd L c/\dd L c+cK c+2<aD L c/\aD L c=2* dd L c+1:=by
 cases c with
 |true=>
  have hb:aJ L true=11+4* L:=rfl;have hs:aD L true=aJ L true:=rfl;rw[hb]at hs;unfold dd cK;simp only[if_true];rw[hs];omega
 |false=>
  have hb:aJ L false=14+4* L:=rfl;have hs:aD L false=aJ L false+1+2* ((aJ L false/2-1)/15):=rfl;rw[hb]at hs;unfold dd cK;simp only[Bool.false_eq_true,if_false];rw[hs];omega
theorem DL {c:Bool} {a:Int} (h:a∈bn c):-((cK c:Nat):Int)+2<=a/\a+2<=((cK c:Nat):Int):=by
 cases c with
 |true=>simp only[bn,if_true,List.mem_cons,List.not_mem_nil,or_false]at h;simp only[cK,if_true];omega
 |false=>simp only[bn,Bool.false_eq_true,if_false,List.mem_cons,List.not_mem_nil,or_false]at h;simp only[cK,Bool.false_eq_true,if_false];omega
theorem Ja {C:Nat} {c:Bool} (e:cK c<=C) {p:Pt} (h:p∈fS C c):(∃t:Nat,C-cK c+2<=t/\t+2<=C+cK c/\(p=(t,C-cK c)\/p=(C+cK c,t)\/p=(t,C+cK c)\/p=(C-cK c,t))):=by
 have d:∀a∈bn c,C-cK c+2<=nW C a/\nW C a+2<=C+cK c:=λa b=>by
  have:=DL b;unfold nW;omega
 unfold fS at h;simp only[List.mem_append,List.mem_map,List.mem_reverse]at h;rcases h with((⟨a,b,rfl⟩|⟨a,b,rfl⟩)|⟨a,b,rfl⟩)|⟨a,b,rfl⟩
 ·exact⟨_,(d a b).1,(d a b).2,.inl rfl⟩
 ·exact⟨_,(d a b).1,(d a b).2,.inr (.inl rfl)⟩
 ·exact⟨_,(d a b).1,(d a b).2,.inr (.inr (.inl rfl))⟩
 ·exact⟨_,(d a b).1,(d a b).2,.inr (.inr (.inr rfl))⟩
theorem LQ (c:Bool):cK c=5\/cK c=7:=by unfold cK;cases c<;>simp
theorem KS {C:Nat} {c:Bool} (a:cK c<=C) {p:Pt} (h:p∈fS C c):p.1<2* C+1/\p.2<2* C+1:=by
 obtain⟨t,d,e,b⟩:=Ja a h;rcases b with rfl|rfl|rfl|rfl<;>simp only<;>omega
theorem Cp (C:Nat) (c:Bool):(fS C c).length=if c=true then 28 else 40:=by cases c<;>rfl
def wrL (W:Nat):List Bool->List Pt->List Bool->List Bool
 |d,p::ps,b::a=>wrL W (d.set (jP W p) b) ps a
 |d,[],_=>d
 |d,_::_,[]=>d
theorem pW (W:Nat) (d:List Bool) (a:List Bool):wrL W d [] a=d:=by unfold wrL;rfl
theorem fT (W:Nat):∀(d:List Bool) (ps:List Pt) (a:List Bool),(wrL W d ps a).length=d.length
 |d,[],a=>by rw[pW]
 |d,p::ps,[]=>rfl
 |d,p::ps,b::a=>by
  show(wrL W (d.set (jP W p) b) ps a).length=_;rw[fT,List.length_set]
theorem vD (W:Nat):∀(d:List Bool) (ps a:List Pt) (e c:List Bool),ps.length=e.length->wrL W d (ps++a) (e++c)=wrL W (wrL W d ps e) a c
 |d,[],a,[],c,_=>by rw[pW];rfl
 |d,p::ps,a,b::e,c,h=>by
  show wrL W (d.set (jP W p) b) (ps++a) (e++c)=wrL W (wrL W (d.set (jP W p) b) ps e) a c;exact vD W _ ps a e c (by simpa using h)
 |d,[],a,b::e,c,h=>by simp at h
 |d,p::ps,a,[],c,h=>by simp at h
theorem ug (W:Nat) (d:List Bool) (ps:List Pt) (a:List Bool) {i:Nat} (b:i<ps.length) (c:i<a.length):wrL W d (ps.take (i+1)) (a.take (i+1))=(wrL W d (ps.take i) (a.take i)).set (jP W (ps.getD i (0,0))) (a.getD i false):=by
 rw[List.take_succ_eq_append_getElem b,List.take_succ_eq_append_getElem c,vD _ _ _ _ _ _ oT];simp[wrL,List.getD,b,c]
theorem zd {W H:Nat} {p:Pt} (b:p.1<W) (a:p.2<H):jP W p<W* H:=by
 unfold jP;have:(p.2+1)* W<=H* W:=Nat.mul_le_mul_right W a;rw[Nat.add_mul,Nat.one_mul]at this;rw[Nat.mul_comm W H];omega
theorem ze {L i s j k:Nat} {c:Bool} (b:L<=32) (d:i<L) (a:j<rN L c i) (e:k<2):2* i+k<aJ L c/\2* i+j<aJ L c:=by
 unfold rN at a;unfold aJ;cases c<;>simp at a⊢<;>omega
theorem je (i:Nat) (w:World):Calls Tryz.prog 137 #[.int .i64 i] w λe w'=>e= .returned (.int .i64 (i:Int))/\w'=w:=by
 go_enter Tryz.func137,Tryz.ntmps137;go_wp2;go_ret;exact⟨rfl,rfl⟩
def HC (L:Nat) (W:World) (hb a:Nat):Prop:=ae W hb #[.int .i64 ((aJ L false/2:Nat):Int)] 3/\ae W a #[.int .i64 ((dd L false:Nat):Int)] 3
theorem jf (L i hb g:Nat) (w:World) (h:L<=32) (n:i<aJ L false) (hc:HC L w hb g):Calls Tryz.prog 138 #[.int .i64 i,.pointer (some ⟨hb,0,none⟩),.pointer (some ⟨g,0,none⟩)] w λe w'=>e= .returned (.int .i64 ((bB L false i:Nat):Int))/\w'=w:=by
 have l:=Lib.hid (jH (c:=false) h);have o:=Lib.hid (gM (c:=false) h);have y:w.cell? ⟨hb,0,none⟩=some (.int .i64 ((aJ L false/2:Nat):Int)):=hc.1.cell 0 _ rfl;have z:w.cell? ⟨g,0,none⟩=some (.int .i64 ((dd L false:Nat):Int)):=hc.2.cell 0 _ rfl;have r:Hid (((dd L false:Nat):Int)=((aD L false:Int)-1)/2):=by
  have:=gM (c:=false) h;show _=_;unfold dd;omega
 clear hc;by_cases f:i<aJ L false/2
 ·have a:=Lib.hid (Ku h f);rw[<-r.out]at a;have d:(aJ L false:Int)/2=((aJ L false/2:Nat):Int):=oO;rw[d]at a;clear d;have hB:aJ L false/2<=100:=by have:=l.out;omega
  have s:dd L false<=100:=by have:=o.out;unfold dd;omega
  generalize bB L false i=p at*;generalize aJ L false/2=b at*;generalize dd L false=t at*;have x:(i:Int)<(b:Int):=oO;obtain⟨j,k⟩:∃j,j=b-1-i:=⟨_,rfl⟩;have e2:(b:Int)-1-(i:Int)=(j:Int):=oO;obtain⟨q,hq⟩:∃q,q=j/15:=⟨_,rfl⟩;have e3:(j:Int)/15=(q:Int):=oO;have m:Hid ((t:Int)-1-(j:Int)-(q:Int)=(p:Int)):=by show _=_;rw[a.out,e2,e3]
  have u:j<=200:=oO;have v:q<=200:=oO;clear k hq f n;go_enter Tryz.func138,Tryz.ntmps138;go_wp2;go_ret;exact⟨bG m.out,rfl⟩
 ·have a:=Lib.hid (Lf h f);rw[<-r.out]at a;have d:(aJ L false:Int)/2=((aJ L false/2:Nat):Int):=oO;rw[d]at a;clear d;have hB:aJ L false/2<=100:=by have:=l.out;omega
  have s:dd L false<=100:=by have:=o.out;unfold dd;omega
  have A:i<=200:=by have:=l.out;omega
  generalize bB L false i=p at*;generalize aJ L false/2=b at*;generalize dd L false=t at*;have x:¬((i:Int)<(b:Int)):=oO;obtain⟨j,k⟩:∃j,j=i-b:=⟨_,rfl⟩;have e2:(i:Int)-(b:Int)=(j:Int):=oO;obtain⟨q,hq⟩:∃q,q=j/15:=⟨_,rfl⟩;have e3:(j:Int)/15=(q:Int):=oO;have m:Hid ((t:Int)+1+(j:Int)+(q:Int)=(p:Int)):=by show _=_;rw[a.out,e2,e3]
  have u:j<=200:=oO;have v:q<=200:=oO;clear k hq f n;go_enter Tryz.func138,Tryz.ntmps138;go_wp2;go_ret;exact⟨bG m.out,rfl⟩
def Gd (c:Bool) (hb a:Nat):Value:=if c=true then .func (Fn.func 137) #[] #[]else .func (Fn.func 138) #[] #[.pointer (some ⟨hb,0,none⟩),.pointer (some ⟨a,0,none⟩)]
structure mf (L:Nat) (c:Bool) (b lb hb a:Nat) (W:World):Prop where
 P:ae W b #[Gd c hb a] 77
 Q:ae W lb #[.int .i64 ((aJ L c-1:Nat):Int)] 3
 H:c=false->HC L W hb a
def notPts:Obj->Bool
 |.cells _ t _=>!(t==47)&&!(t==40)
 |_=>true
def aP (w w':World):Prop:=∀(k:Nat) (a:Obj),w.heap[k]?=some a->notPts a=true->w'.heap[k]?=some a
theorem aP.refl (w:World):aP w w:=λ_ _ h _=>h
theorem aP.trans {a b c:World} (h:aP a b) (f:aP b c):aP a c:=λk d g e=>f k d (h k d g e) e
theorem aP.below {w W:World} (h:Below w.heap.size w W):aP w W:=λk b a _=>(h.block k (ar a)).trans a
theorem ae.iQ {w w':World} {g:Nat} {a:Array Value} {t:TypeId} (h:ae w g a t) (b:aP w w') (c:notPts (.cells a t (0,0))=true):ae w' g a t:=b g _ h c
theorem mf.dz {L:Nat} {c:Bool} {b lb hb d:Nat} {w W:World} (h:mf L c b lb hb d w) (a:aP w W):mf L c b lb hb d W:=
 ⟨h.P.iQ a rfl,h.Q.iQ a rfl,λe=>⟨(h.H e).1.iQ a rfl,(h.H e).2.iQ a rfl⟩⟩
theorem Dc (L:Nat) (c:Bool) (F lb G hb r i j k:Nat) (w:World) (g:L<=32) (K:i<L) (M:j<rN L c i) (N:k<2) (O:mf L c F lb hb r w) (P:ae w G #[.int .i64 i] 3):
 Calls Tryz.prog 94 #[.int .i64 j,.int .i64 k,.pointer (some ⟨F,0,none⟩),.pointer (some ⟨G,0,none⟩)] w λe w'=>e= .returned (.agg #[.int .i64 (((eR L c i 0 j k).1:Nat):Int),.int .i64 (((eR L c i 0 j k).2:Nat):Int)])/\Below w.heap.size w w':=by
 obtain⟨o,a1⟩:=ze (s:=0) g K M N;have a2:=(jH (c:=c) g).2;obtain⟨b,X⟩:∃b,b=2* i+k:=⟨_,rfl⟩;obtain⟨d,Y⟩:∃d,d=2* i+j:=⟨_,rfl⟩;obtain⟨m,B⟩:∃m,m=aJ L c-1:=⟨_,rfl⟩;obtain⟨t,Z⟩:∃t,t=m-b:=⟨_,rfl⟩;obtain⟨u,ab⟩:∃u,u=m-d:=⟨_,rfl⟩;obtain⟨q,a3⟩:∃q,q=2* i:=⟨_,rfl⟩;obtain⟨z,a4⟩:∃z,z=m-q:=⟨_,rfl⟩;have a7:IntKind.i64.wrap (2* (i:Int))=(q:Int):=by rw[aE _ oO oO];omega
 have a8:IntKind.i64.wrap ((q:Int)+(k:Int))=(b:Int):=by rw[aE _ oO oO];omega
 have a9:IntKind.i64.wrap ((q:Int)+(j:Int))=(d:Int):=by rw[aE _ oO oO];omega
 have bb:IntKind.i64.wrap ((m:Int)-(q:Int))=(z:Int):=by rw[aE _ oO oO];omega
 have bd:IntKind.i64.wrap ((z:Int)-(k:Int))=(t:Int):=by rw[aE _ oO oO];omega
 have be:IntKind.i64.wrap ((z:Int)-(j:Int))=(u:Int):=by rw[aE _ oO oO];omega
 have ap:Hid (eR L c i 0 j k=(bB L c b,bB L c d)):=by
  show _=_;clear a7 a8 a9 bb bd be;subst Z ab B X Y;rfl
 have D:b<aJ L c:=oO;have E:d<aJ L c:=oO;have a5:t<aJ L c:=oO;have a6:u<aJ L c:=oO;have bv:i<=32:=oO;have bx:j<=142:=oO;have bz:m<=142:=oO;have bf:b<=142/\d<=142/\t<=142/\u<=142:=oO;obtain⟨bo,bq,bs,bt⟩:=bf;have H:=Lib.hid O;have av:=Lib.hid P;obtain⟨l,J⟩:∃l,l=w.alloc (.cells #[.int .i64 0,.int .i64 0] 47):=⟨_,rfl⟩;have p:Hid (Below w.heap.size w l):=by show Below _ _ _;rw[J];exact ax _ _
 have a0:Hid (∀W,af l W->ae W w.heap.size #[.int .i64 0,.int .i64 0] 47):=λW a=>by
  have:ae l w.heap.size #[.int .i64 0,.int .i64 0] 47:=by rw[J];exact ae.new _ _ _ _ oS
  exact this.below a
 cases c with
 |true=>
  have ac:Hid (∀W,af l W->Calls Tryz.prog 137 #[.int .i64 b] W λe w'=>e= .returned (.int .i64 ((bB L true b:Nat):Int))/\Below W.heap.size W w'):=λW a=>by rw[show bB L true b=b from rfl];exact(je b W).mono (by rintro e f ⟨rfl,rfl⟩;exact⟨rfl,Below.refl _ _⟩)
  have ad:Hid (∀W,af l W->Calls Tryz.prog 137 #[.int .i64 d] W λe w'=>e= .returned (.int .i64 ((bB L true d:Nat):Int))/\Below W.heap.size W w'):=λW a=>by rw[show bB L true d=d from rfl];exact(je d W).mono (by rintro e f ⟨rfl,rfl⟩;exact⟨rfl,Below.refl _ _⟩)
  have A:Hid (∀W,af l W->W.cell? ⟨F,0,none⟩=some (.func (Fn.func 137) #[] #[])/\W.cell? ⟨lb,0,none⟩=some (.int .i64 m)/\W.cell? ⟨G,0,none⟩=some (.int .i64 i)):=by
   show∀W,_;intro W a;have h:=H.out.dz (aP.below (aa p.out a));have al:=av.out.below (aa p.out a);refine⟨h.P.cell 0 _ rfl,?_,al.cell 0 _ rfl⟩;rw[B];exact h.Q.cell 0 _ rfl
  rw[ap.out];have bi:Hid (bB L true b<=200/\bB L true d<=200):=by
   have:=eJ g D;have:=eJ g E;have:=gM (c:=true) g
   show _/\_;omega
  generalize bB L true b=x at*;generalize bB L true d=y at*;clear O P K M N B X Y Z ab a3 a4 D E a5 a6 o a1 a2 g;subst J;go_enter Tryz.func94,Tryz.ntmps94;go_wp2;refine bj (S:=(λW=>af (w.alloc (.cells #[.int .i64 0,.int .i64 0] 47)) W)) 12 oK oK (ai (Below.refl _ _)) ?_;simp only[List.take_succ_cons,List.take_zero,List.drop_succ_cons,List.drop_zero]
  repeat refine kO A.out ?_
  refine kX (λW a=>ac.out W a) ?_
  repeat refine kO A.out ?_
  refine kX (λW a=>ad.out W a) ?_;refine bR ?_;intro f o;have C:=Lib.hid o;clear o;have n:=Lib.hid (a0.out _ C.out);have Q:f.cell? ⟨w.heap.size,0,none⟩=some (.int .i64 0):=n.out.cell 0 _ rfl;have T:f.cell? ⟨w.heap.size,1,none⟩=some (.int .i64 0):=n.out.cell 1 _ rfl;have U:f.frozen? ⟨w.heap.size,0,none⟩=false:=frozen_of_row _ _ _ _ _ n.out;have V:f.frozen? ⟨w.heap.size,1,none⟩=false:=frozen_of_row _ _ _ _ _ n.out;have am:Hid (Below w.heap.size w f):=aa p.out C.out;go_wp2;exact bodyPost_ret (v:= .agg #[.int .i64 (x:Int),.int .i64 (y:Int)]) (by simp[results,Tryz.results94,go_sem,Q,T,U,V]) rfl ⟨rfl,(am.out.setCell oS _).setCell oS _⟩
 |false=>
  have ac:Hid (∀W,af l W->Calls Tryz.prog 138 #[.int .i64 b,.pointer (some ⟨hb,0,none⟩),.pointer (some ⟨r,0,none⟩)] W λe w'=>e= .returned (.int .i64 ((bB L false b:Nat):Int))/\Below W.heap.size W w'):=λW a=>(jf L b hb r W g D ((H.out.dz (aP.below (aa p.out a))).H rfl)).mono (by rintro e f ⟨rfl,rfl⟩;exact⟨rfl,Below.refl _ _⟩);have ad:Hid (∀W,af l W->Calls Tryz.prog 138 #[.int .i64 d,.pointer (some ⟨hb,0,none⟩),.pointer (some ⟨r,0,none⟩)] W λe w'=>e= .returned (.int .i64 ((bB L false d:Nat):Int))/\Below W.heap.size W w'):=λW a=>(jf L d hb r W g E ((H.out.dz (aP.below (aa p.out a))).H rfl)).mono (by rintro e f ⟨rfl,rfl⟩;exact⟨rfl,Below.refl _ _⟩);have A:Hid (∀W,af l W->W.cell? ⟨F,0,none⟩=some (.func (Fn.func 138) #[] #[.pointer (some ⟨hb,0,none⟩),.pointer (some ⟨r,0,none⟩)])/\W.cell? ⟨lb,0,none⟩=some (.int .i64 m)/\W.cell? ⟨G,0,none⟩=some (.int .i64 i)):=by
   show∀W,_;intro W a;have h:=H.out.dz (aP.below (aa p.out a));have al:=av.out.below (aa p.out a);refine⟨h.P.cell 0 _ rfl,?_,al.cell 0 _ rfl⟩;rw[B];exact h.Q.cell 0 _ rfl
  rw[ap.out];have bi:Hid (bB L false b<=200/\bB L false d<=200):=by
   have:=eJ g D;have:=eJ g E;have:=gM (c:=false) g
   show _/\_;omega
  generalize bB L false b=x at*;generalize bB L false d=y at*;clear O P K M N B X Y Z ab a3 a4 D E a5 a6 o a1 a2 g;subst J;go_enter Tryz.func94,Tryz.ntmps94;go_wp2;refine bj (S:=(λW=>af (w.alloc (.cells #[.int .i64 0,.int .i64 0] 47)) W)) 12 oK oK (ai (Below.refl _ _)) ?_;simp only[List.take_succ_cons,List.take_zero,List.drop_succ_cons,List.drop_zero]
  repeat refine kO A.out ?_
  refine kX (λW a=>ac.out W a) ?_
  repeat refine kO A.out ?_
  refine kX (λW a=>ad.out W a) ?_;refine bR ?_;intro f o;have C:=Lib.hid o;clear o;have n:=Lib.hid (a0.out _ C.out);have Q:f.cell? ⟨w.heap.size,0,none⟩=some (.int .i64 0):=n.out.cell 0 _ rfl;have T:f.cell? ⟨w.heap.size,1,none⟩=some (.int .i64 0):=n.out.cell 1 _ rfl;have U:f.frozen? ⟨w.heap.size,0,none⟩=false:=frozen_of_row _ _ _ _ _ n.out;have V:f.frozen? ⟨w.heap.size,1,none⟩=false:=frozen_of_row _ _ _ _ _ n.out;have am:Hid (Below w.heap.size w f):=aa p.out C.out;go_wp2;exact bodyPost_ret (v:= .agg #[.int .i64 (x:Int),.int .i64 (y:Int)]) (by simp[results,Tryz.results94,go_sem,Q,T,U,V]) rfl ⟨rfl,(am.out.setCell oS _).setCell oS _⟩
theorem DP (L:Nat) (c:Bool) (F lb G hb r i j k:Nat) (w:World) (g:L<=32) (K:i<L) (M:j<rN L c i) (N:k<2) (O:mf L c F lb hb r w) (P:ae w G #[.int .i64 i] 3):
 Calls Tryz.prog 95 #[.int .i64 j,.int .i64 k,.pointer (some ⟨F,0,none⟩),.pointer (some ⟨G,0,none⟩),.pointer (some ⟨lb,0,none⟩)] w λe w'=>e= .returned (.agg #[.int .i64 (((eR L c i 1 j k).1:Nat):Int),.int .i64 (((eR L c i 1 j k).2:Nat):Int)])/\Below w.heap.size w w':=by
 obtain⟨o,a1⟩:=ze (s:=0) g K M N;have a2:=(jH (c:=c) g).2;obtain⟨t,X⟩:∃t,t=2* i+k:=⟨_,rfl⟩;obtain⟨b,Y⟩:∃b,b=2* i+j:=⟨_,rfl⟩;obtain⟨m,B⟩:∃m,m=aJ L c-1:=⟨_,rfl⟩;obtain⟨d,Z⟩:∃d,d=m-t:=⟨_,rfl⟩;obtain⟨u,ab⟩:∃u,u=m-b:=⟨_,rfl⟩;obtain⟨q,a3⟩:∃q,q=2* i:=⟨_,rfl⟩;obtain⟨z,a4⟩:∃z,z=m-q:=⟨_,rfl⟩;have a7:IntKind.i64.wrap (2* (i:Int))=(q:Int):=by rw[aE _ oO oO];omega
 have a8:IntKind.i64.wrap ((q:Int)+(k:Int))=(t:Int):=by rw[aE _ oO oO];omega
 have a9:IntKind.i64.wrap ((q:Int)+(j:Int))=(b:Int):=by rw[aE _ oO oO];omega
 have bb:IntKind.i64.wrap ((m:Int)-(q:Int))=(z:Int):=by rw[aE _ oO oO];omega
 have bd:IntKind.i64.wrap ((z:Int)-(k:Int))=(d:Int):=by rw[aE _ oO oO];omega
 have be:IntKind.i64.wrap ((z:Int)-(j:Int))=(u:Int):=by rw[aE _ oO oO];omega
 have ap:Hid (eR L c i 1 j k=(bB L c b,bB L c d)):=by
  show _=_;clear a7 a8 a9 bb bd be;subst Z ab B X Y;rfl
 have a5:t<aJ L c:=oO;have D:b<aJ L c:=oO;have E:d<aJ L c:=oO;have a6:u<aJ L c:=oO;have bv:i<=32:=oO;have bx:j<=142:=oO;have bz:m<=142:=oO;have bf:t<=142/\b<=142/\d<=142/\u<=142:=oO;obtain⟨bo,bq,bs,bt⟩:=bf;have H:=Lib.hid O;have av:=Lib.hid P;obtain⟨l,J⟩:∃l,l=w.alloc (.cells #[.int .i64 0,.int .i64 0] 47):=⟨_,rfl⟩;have p:Hid (Below w.heap.size w l):=by show Below _ _ _;rw[J];exact ax _ _
 have a0:Hid (∀W,af l W->ae W w.heap.size #[.int .i64 0,.int .i64 0] 47):=λW a=>by
  have:ae l w.heap.size #[.int .i64 0,.int .i64 0] 47:=by rw[J];exact ae.new _ _ _ _ oS
  exact this.below a
 cases c with
 |true=>
  have ac:Hid (∀W,af l W->Calls Tryz.prog 137 #[.int .i64 b] W λe w'=>e= .returned (.int .i64 ((bB L true b:Nat):Int))/\Below W.heap.size W w'):=λW a=>by rw[show bB L true b=b from rfl];exact(je b W).mono (by rintro e f ⟨rfl,rfl⟩;exact⟨rfl,Below.refl _ _⟩)
  have ad:Hid (∀W,af l W->Calls Tryz.prog 137 #[.int .i64 d] W λe w'=>e= .returned (.int .i64 ((bB L true d:Nat):Int))/\Below W.heap.size W w'):=λW a=>by rw[show bB L true d=d from rfl];exact(je d W).mono (by rintro e f ⟨rfl,rfl⟩;exact⟨rfl,Below.refl _ _⟩)
  have A:Hid (∀W,af l W->W.cell? ⟨F,0,none⟩=some (.func (Fn.func 137) #[] #[])/\W.cell? ⟨lb,0,none⟩=some (.int .i64 m)/\W.cell? ⟨G,0,none⟩=some (.int .i64 i)):=by
   show∀W,_;intro W a;have h:=H.out.dz (aP.below (aa p.out a));have al:=av.out.below (aa p.out a);refine⟨h.P.cell 0 _ rfl,?_,al.cell 0 _ rfl⟩;rw[B];exact h.Q.cell 0 _ rfl
  rw[ap.out];have bi:Hid (bB L true b<=200/\bB L true d<=200):=by
   have:=eJ g D;have:=eJ g E;have:=gM (c:=true) g
   show _/\_;omega
  generalize bB L true b=x at*;generalize bB L true d=y at*;clear O P K M N B X Y Z ab a3 a4 a5 D E a6 o a1 a2 g;subst J;go_enter Tryz.func95,Tryz.ntmps95;go_wp2;refine bj (S:=(λW=>af (w.alloc (.cells #[.int .i64 0,.int .i64 0] 47)) W)) 14 oK oK (ai (Below.refl _ _)) ?_;simp only[List.take_succ_cons,List.take_zero,List.drop_succ_cons,List.drop_zero]
  repeat refine kO A.out ?_
  refine kX (λW a=>ac.out W a) ?_
  repeat refine kO A.out ?_
  refine kX (λW a=>ad.out W a) ?_;refine bR ?_;intro f o;have C:=Lib.hid o;clear o;have n:=Lib.hid (a0.out _ C.out);have Q:f.cell? ⟨w.heap.size,0,none⟩=some (.int .i64 0):=n.out.cell 0 _ rfl;have T:f.cell? ⟨w.heap.size,1,none⟩=some (.int .i64 0):=n.out.cell 1 _ rfl;have U:f.frozen? ⟨w.heap.size,0,none⟩=false:=frozen_of_row _ _ _ _ _ n.out;have V:f.frozen? ⟨w.heap.size,1,none⟩=false:=frozen_of_row _ _ _ _ _ n.out;have am:Hid (Below w.heap.size w f):=aa p.out C.out;go_wp2;exact bodyPost_ret (v:= .agg #[.int .i64 (x:Int),.int .i64 (y:Int)]) (by simp[results,Tryz.results95,go_sem,Q,T,U,V]) rfl ⟨rfl,(am.out.setCell oS _).setCell oS _⟩
 |false=>
  have ac:Hid (∀W,af l W->Calls Tryz.prog 138 #[.int .i64 b,.pointer (some ⟨hb,0,none⟩),.pointer (some ⟨r,0,none⟩)] W λe w'=>e= .returned (.int .i64 ((bB L false b:Nat):Int))/\Below W.heap.size W w'):=λW a=>(jf L b hb r W g D ((H.out.dz (aP.below (aa p.out a))).H rfl)).mono (by rintro e f ⟨rfl,rfl⟩;exact⟨rfl,Below.refl _ _⟩);have ad:Hid (∀W,af l W->Calls Tryz.prog 138 #[.int .i64 d,.pointer (some ⟨hb,0,none⟩),.pointer (some ⟨r,0,none⟩)] W λe w'=>e= .returned (.int .i64 ((bB L false d:Nat):Int))/\Below W.heap.size W w'):=λW a=>(jf L d hb r W g E ((H.out.dz (aP.below (aa p.out a))).H rfl)).mono (by rintro e f ⟨rfl,rfl⟩;exact⟨rfl,Below.refl _ _⟩);have A:Hid (∀W,af l W->W.cell? ⟨F,0,none⟩=some (.func (Fn.func 138) #[] #[.pointer (some ⟨hb,0,none⟩),.pointer (some ⟨r,0,none⟩)])/\W.cell? ⟨lb,0,none⟩=some (.int .i64 m)/\W.cell? ⟨G,0,none⟩=some (.int .i64 i)):=by
   show∀W,_;intro W a;have h:=H.out.dz (aP.below (aa p.out a));have al:=av.out.below (aa p.out a);refine⟨h.P.cell 0 _ rfl,?_,al.cell 0 _ rfl⟩;rw[B];exact h.Q.cell 0 _ rfl
  rw[ap.out];have bi:Hid (bB L false b<=200/\bB L false d<=200):=by
   have:=eJ g D;have:=eJ g E;have:=gM (c:=false) g
   show _/\_;omega
  generalize bB L false b=x at*;generalize bB L false d=y at*;clear O P K M N B X Y Z ab a3 a4 a5 D E a6 o a1 a2 g;subst J;go_enter Tryz.func95,Tryz.ntmps95;go_wp2;refine bj (S:=(λW=>af (w.alloc (.cells #[.int .i64 0,.int .i64 0] 47)) W)) 14 oK oK (ai (Below.refl _ _)) ?_;simp only[List.take_succ_cons,List.take_zero,List.drop_succ_cons,List.drop_zero]
  repeat refine kO A.out ?_
  refine kX (λW a=>ac.out W a) ?_
  repeat refine kO A.out ?_
  refine kX (λW a=>ad.out W a) ?_;refine bR ?_;intro f o;have C:=Lib.hid o;clear o;have n:=Lib.hid (a0.out _ C.out);have Q:f.cell? ⟨w.heap.size,0,none⟩=some (.int .i64 0):=n.out.cell 0 _ rfl;have T:f.cell? ⟨w.heap.size,1,none⟩=some (.int .i64 0):=n.out.cell 1 _ rfl;have U:f.frozen? ⟨w.heap.size,0,none⟩=false:=frozen_of_row _ _ _ _ _ n.out;have V:f.frozen? ⟨w.heap.size,1,none⟩=false:=frozen_of_row _ _ _ _ _ n.out;have am:Hid (Below w.heap.size w f):=aa p.out C.out;go_wp2;exact bodyPost_ret (v:= .agg #[.int .i64 (x:Int),.int .i64 (y:Int)]) (by simp[results,Tryz.results95,go_sem,Q,T,U,V]) rfl ⟨rfl,(am.out.setCell oS _).setCell oS _⟩
theorem DM (L:Nat) (c:Bool) (F lb G hb r i j k:Nat) (w:World) (g:L<=32) (K:i<L) (M:j<rN L c i) (N:k<2) (O:mf L c F lb hb r w) (P:ae w G #[.int .i64 i] 3):
 Calls Tryz.prog 96 #[.int .i64 j,.int .i64 k,.pointer (some ⟨F,0,none⟩),.pointer (some ⟨lb,0,none⟩),.pointer (some ⟨G,0,none⟩)] w λe w'=>e= .returned (.agg #[.int .i64 (((eR L c i 2 j k).1:Nat):Int),.int .i64 (((eR L c i 2 j k).2:Nat):Int)])/\Below w.heap.size w w':=by
 obtain⟨o,a1⟩:=ze (s:=0) g K M N;have a2:=(jH (c:=c) g).2;obtain⟨t,X⟩:∃t,t=2* i+k:=⟨_,rfl⟩;obtain⟨u,Y⟩:∃u,u=2* i+j:=⟨_,rfl⟩;obtain⟨m,B⟩:∃m,m=aJ L c-1:=⟨_,rfl⟩;obtain⟨b,Z⟩:∃b,b=m-t:=⟨_,rfl⟩;obtain⟨d,ab⟩:∃d,d=m-u:=⟨_,rfl⟩;obtain⟨q,a3⟩:∃q,q=2* i:=⟨_,rfl⟩;obtain⟨z,a4⟩:∃z,z=m-q:=⟨_,rfl⟩;have a7:IntKind.i64.wrap (2* (i:Int))=(q:Int):=by rw[aE _ oO oO];omega
 have a8:IntKind.i64.wrap ((q:Int)+(k:Int))=(t:Int):=by rw[aE _ oO oO];omega
 have a9:IntKind.i64.wrap ((q:Int)+(j:Int))=(u:Int):=by rw[aE _ oO oO];omega
 have bb:IntKind.i64.wrap ((m:Int)-(q:Int))=(z:Int):=by rw[aE _ oO oO];omega
 have bd:IntKind.i64.wrap ((z:Int)-(k:Int))=(b:Int):=by rw[aE _ oO oO];omega
 have be:IntKind.i64.wrap ((z:Int)-(j:Int))=(d:Int):=by rw[aE _ oO oO];omega
 have ap:Hid (eR L c i 2 j k=(bB L c b,bB L c d)):=by
  show _=_;clear a7 a8 a9 bb bd be;subst Z ab B X Y;rfl
 have a5:t<aJ L c:=oO;have a6:u<aJ L c:=oO;have D:b<aJ L c:=oO;have E:d<aJ L c:=oO;have bv:i<=32:=oO;have bx:j<=142:=oO;have bz:m<=142:=oO;have bf:t<=142/\u<=142/\b<=142/\d<=142:=oO;obtain⟨bo,bq,bs,bt⟩:=bf;have H:=Lib.hid O;have av:=Lib.hid P;obtain⟨l,J⟩:∃l,l=w.alloc (.cells #[.int .i64 0,.int .i64 0] 47):=⟨_,rfl⟩;have p:Hid (Below w.heap.size w l):=by show Below _ _ _;rw[J];exact ax _ _
 have a0:Hid (∀W,af l W->ae W w.heap.size #[.int .i64 0,.int .i64 0] 47):=λW a=>by
  have:ae l w.heap.size #[.int .i64 0,.int .i64 0] 47:=by rw[J];exact ae.new _ _ _ _ oS
  exact this.below a
 cases c with
 |true=>
  have ac:Hid (∀W,af l W->Calls Tryz.prog 137 #[.int .i64 b] W λe w'=>e= .returned (.int .i64 ((bB L true b:Nat):Int))/\Below W.heap.size W w'):=λW a=>by rw[show bB L true b=b from rfl];exact(je b W).mono (by rintro e f ⟨rfl,rfl⟩;exact⟨rfl,Below.refl _ _⟩)
  have ad:Hid (∀W,af l W->Calls Tryz.prog 137 #[.int .i64 d] W λe w'=>e= .returned (.int .i64 ((bB L true d:Nat):Int))/\Below W.heap.size W w'):=λW a=>by rw[show bB L true d=d from rfl];exact(je d W).mono (by rintro e f ⟨rfl,rfl⟩;exact⟨rfl,Below.refl _ _⟩)
  have A:Hid (∀W,af l W->W.cell? ⟨F,0,none⟩=some (.func (Fn.func 137) #[] #[])/\W.cell? ⟨lb,0,none⟩=some (.int .i64 m)/\W.cell? ⟨G,0,none⟩=some (.int .i64 i)):=by
   show∀W,_;intro W a;have h:=H.out.dz (aP.below (aa p.out a));have al:=av.out.below (aa p.out a);refine⟨h.P.cell 0 _ rfl,?_,al.cell 0 _ rfl⟩;rw[B];exact h.Q.cell 0 _ rfl
  rw[ap.out];have bi:Hid (bB L true b<=200/\bB L true d<=200):=by
   have:=eJ g D;have:=eJ g E;have:=gM (c:=true) g
   show _/\_;omega
  generalize bB L true b=x at*;generalize bB L true d=y at*;clear O P K M N B X Y Z ab a3 a4 a5 a6 D E o a1 a2 g;subst J;go_enter Tryz.func96,Tryz.ntmps96;go_wp2;refine bj (S:=(λW=>af (w.alloc (.cells #[.int .i64 0,.int .i64 0] 47)) W)) 16 oK oK (ai (Below.refl _ _)) ?_;simp only[List.take_succ_cons,List.take_zero,List.drop_succ_cons,List.drop_zero]
  repeat refine kO A.out ?_
  refine kX (λW a=>ac.out W a) ?_
  repeat refine kO A.out ?_
  refine kX (λW a=>ad.out W a) ?_;refine bR ?_;intro f o;have C:=Lib.hid o;clear o;have n:=Lib.hid (a0.out _ C.out);have Q:f.cell? ⟨w.heap.size,0,none⟩=some (.int .i64 0):=n.out.cell 0 _ rfl;have T:f.cell? ⟨w.heap.size,1,none⟩=some (.int .i64 0):=n.out.cell 1 _ rfl;have U:f.frozen? ⟨w.heap.size,0,none⟩=false:=frozen_of_row _ _ _ _ _ n.out;have V:f.frozen? ⟨w.heap.size,1,none⟩=false:=frozen_of_row _ _ _ _ _ n.out;have am:Hid (Below w.heap.size w f):=aa p.out C.out;go_wp2;exact bodyPost_ret (v:= .agg #[.int .i64 (x:Int),.int .i64 (y:Int)]) (by simp[results,Tryz.results96,go_sem,Q,T,U,V]) rfl ⟨rfl,(am.out.setCell oS _).setCell oS _⟩
 |false=>
  have ac:Hid (∀W,af l W->Calls Tryz.prog 138 #[.int .i64 b,.pointer (some ⟨hb,0,none⟩),.pointer (some ⟨r,0,none⟩)] W λe w'=>e= .returned (.int .i64 ((bB L false b:Nat):Int))/\Below W.heap.size W w'):=λW a=>(jf L b hb r W g D ((H.out.dz (aP.below (aa p.out a))).H rfl)).mono (by rintro e f ⟨rfl,rfl⟩;exact⟨rfl,Below.refl _ _⟩);have ad:Hid (∀W,af l W->Calls Tryz.prog 138 #[.int .i64 d,.pointer (some ⟨hb,0,none⟩),.pointer (some ⟨r,0,none⟩)] W λe w'=>e= .returned (.int .i64 ((bB L false d:Nat):Int))/\Below W.heap.size W w'):=λW a=>(jf L d hb r W g E ((H.out.dz (aP.below (aa p.out a))).H rfl)).mono (by rintro e f ⟨rfl,rfl⟩;exact⟨rfl,Below.refl _ _⟩);have A:Hid (∀W,af l W->W.cell? ⟨F,0,none⟩=some (.func (Fn.func 138) #[] #[.pointer (some ⟨hb,0,none⟩),.pointer (some ⟨r,0,none⟩)])/\W.cell? ⟨lb,0,none⟩=some (.int .i64 m)/\W.cell? ⟨G,0,none⟩=some (.int .i64 i)):=by
   show∀W,_;intro W a;have h:=H.out.dz (aP.below (aa p.out a));have al:=av.out.below (aa p.out a);refine⟨h.P.cell 0 _ rfl,?_,al.cell 0 _ rfl⟩;rw[B];exact h.Q.cell 0 _ rfl
  rw[ap.out];have bi:Hid (bB L false b<=200/\bB L false d<=200):=by
   have:=eJ g D;have:=eJ g E;have:=gM (c:=false) g
   show _/\_;omega
  generalize bB L false b=x at*;generalize bB L false d=y at*;clear O P K M N B X Y Z ab a3 a4 a5 a6 D E o a1 a2 g;subst J;go_enter Tryz.func96,Tryz.ntmps96;go_wp2;refine bj (S:=(λW=>af (w.alloc (.cells #[.int .i64 0,.int .i64 0] 47)) W)) 16 oK oK (ai (Below.refl _ _)) ?_;simp only[List.take_succ_cons,List.take_zero,List.drop_succ_cons,List.drop_zero]
  repeat refine kO A.out ?_
  refine kX (λW a=>ac.out W a) ?_
  repeat refine kO A.out ?_
  refine kX (λW a=>ad.out W a) ?_;refine bR ?_;intro f o;have C:=Lib.hid o;clear o;have n:=Lib.hid (a0.out _ C.out);have Q:f.cell? ⟨w.heap.size,0,none⟩=some (.int .i64 0):=n.out.cell 0 _ rfl;have T:f.cell? ⟨w.heap.size,1,none⟩=some (.int .i64 0):=n.out.cell 1 _ rfl;have U:f.frozen? ⟨w.heap.size,0,none⟩=false:=frozen_of_row _ _ _ _ _ n.out;have V:f.frozen? ⟨w.heap.size,1,none⟩=false:=frozen_of_row _ _ _ _ _ n.out;have am:Hid (Below w.heap.size w f):=aa p.out C.out;go_wp2;exact bodyPost_ret (v:= .agg #[.int .i64 (x:Int),.int .i64 (y:Int)]) (by simp[results,Tryz.results96,go_sem,Q,T,U,V]) rfl ⟨rfl,(am.out.setCell oS _).setCell oS _⟩
theorem De (L:Nat) (c:Bool) (F lb G hb r i j k:Nat) (w:World) (g:L<=32) (K:i<L) (M:j<rN L c i) (N:k<2) (O:mf L c F lb hb r w) (P:ae w G #[.int .i64 i] 3):
 Calls Tryz.prog 97 #[.int .i64 j,.int .i64 k,.pointer (some ⟨F,0,none⟩),.pointer (some ⟨lb,0,none⟩),.pointer (some ⟨G,0,none⟩)] w λe w'=>e= .returned (.agg #[.int .i64 (((eR L c i 3 j k).1:Nat):Int),.int .i64 (((eR L c i 3 j k).2:Nat):Int)])/\Below w.heap.size w w':=by
 obtain⟨o,a1⟩:=ze (s:=0) g K M N;have a2:=(jH (c:=c) g).2;obtain⟨b,X⟩:∃b,b=2* i+k:=⟨_,rfl⟩;obtain⟨t,Y⟩:∃t,t=2* i+j:=⟨_,rfl⟩;obtain⟨m,B⟩:∃m,m=aJ L c-1:=⟨_,rfl⟩;obtain⟨u,Z⟩:∃u,u=m-b:=⟨_,rfl⟩;obtain⟨d,ab⟩:∃d,d=m-t:=⟨_,rfl⟩;obtain⟨q,a3⟩:∃q,q=2* i:=⟨_,rfl⟩;obtain⟨z,a4⟩:∃z,z=m-q:=⟨_,rfl⟩;have a7:IntKind.i64.wrap (2* (i:Int))=(q:Int):=by rw[aE _ oO oO];omega
 have a8:IntKind.i64.wrap ((q:Int)+(k:Int))=(b:Int):=by rw[aE _ oO oO];omega
 have a9:IntKind.i64.wrap ((q:Int)+(j:Int))=(t:Int):=by rw[aE _ oO oO];omega
 have bb:IntKind.i64.wrap ((m:Int)-(q:Int))=(z:Int):=by rw[aE _ oO oO];omega
 have bd:IntKind.i64.wrap ((z:Int)-(k:Int))=(u:Int):=by rw[aE _ oO oO];omega
 have be:IntKind.i64.wrap ((z:Int)-(j:Int))=(d:Int):=by rw[aE _ oO oO];omega
 have ap:Hid (eR L c i 3 j k=(bB L c d,bB L c b)):=by
  show _=_;clear a7 a8 a9 bb bd be;subst Z ab B X Y;rfl
 have D:b<aJ L c:=oO;have a5:t<aJ L c:=oO;have a6:u<aJ L c:=oO;have E:d<aJ L c:=oO;have bv:i<=32:=oO;have bx:j<=142:=oO;have bz:m<=142:=oO;have bf:b<=142/\t<=142/\u<=142/\d<=142:=oO;obtain⟨bo,bq,bs,bt⟩:=bf;have H:=Lib.hid O;have av:=Lib.hid P;obtain⟨l,J⟩:∃l,l=w.alloc (.cells #[.int .i64 0,.int .i64 0] 47):=⟨_,rfl⟩;have p:Hid (Below w.heap.size w l):=by show Below _ _ _;rw[J];exact ax _ _
 have a0:Hid (∀W,af l W->ae W w.heap.size #[.int .i64 0,.int .i64 0] 47):=λW a=>by
  have:ae l w.heap.size #[.int .i64 0,.int .i64 0] 47:=by rw[J];exact ae.new _ _ _ _ oS
  exact this.below a
 cases c with
 |true=>
  have ac:Hid (∀W,af l W->Calls Tryz.prog 137 #[.int .i64 d] W λe w'=>e= .returned (.int .i64 ((bB L true d:Nat):Int))/\Below W.heap.size W w'):=λW a=>by rw[show bB L true d=d from rfl];exact(je d W).mono (by rintro e f ⟨rfl,rfl⟩;exact⟨rfl,Below.refl _ _⟩)
  have ad:Hid (∀W,af l W->Calls Tryz.prog 137 #[.int .i64 b] W λe w'=>e= .returned (.int .i64 ((bB L true b:Nat):Int))/\Below W.heap.size W w'):=λW a=>by rw[show bB L true b=b from rfl];exact(je b W).mono (by rintro e f ⟨rfl,rfl⟩;exact⟨rfl,Below.refl _ _⟩)
  have A:Hid (∀W,af l W->W.cell? ⟨F,0,none⟩=some (.func (Fn.func 137) #[] #[])/\W.cell? ⟨lb,0,none⟩=some (.int .i64 m)/\W.cell? ⟨G,0,none⟩=some (.int .i64 i)):=by
   show∀W,_;intro W a;have h:=H.out.dz (aP.below (aa p.out a));have al:=av.out.below (aa p.out a);refine⟨h.P.cell 0 _ rfl,?_,al.cell 0 _ rfl⟩;rw[B];exact h.Q.cell 0 _ rfl
  rw[ap.out];have bi:Hid (bB L true d<=200/\bB L true b<=200):=by
   have:=eJ g E;have:=eJ g D;have:=gM (c:=true) g
   show _/\_;omega
  generalize bB L true d=x at*;generalize bB L true b=y at*;clear O P K M N B X Y Z ab a3 a4 D a5 a6 E o a1 a2 g;subst J;go_enter Tryz.func97,Tryz.ntmps97;go_wp2;refine bj (S:=(λW=>af (w.alloc (.cells #[.int .i64 0,.int .i64 0] 47)) W)) 14 oK oK (ai (Below.refl _ _)) ?_;simp only[List.take_succ_cons,List.take_zero,List.drop_succ_cons,List.drop_zero]
  repeat refine kO A.out ?_
  refine kX (λW a=>ac.out W a) ?_
  repeat refine kO A.out ?_
  refine kX (λW a=>ad.out W a) ?_;refine bR ?_;intro f o;have C:=Lib.hid o;clear o;have n:=Lib.hid (a0.out _ C.out);have Q:f.cell? ⟨w.heap.size,0,none⟩=some (.int .i64 0):=n.out.cell 0 _ rfl;have T:f.cell? ⟨w.heap.size,1,none⟩=some (.int .i64 0):=n.out.cell 1 _ rfl;have U:f.frozen? ⟨w.heap.size,0,none⟩=false:=frozen_of_row _ _ _ _ _ n.out;have V:f.frozen? ⟨w.heap.size,1,none⟩=false:=frozen_of_row _ _ _ _ _ n.out;have am:Hid (Below w.heap.size w f):=aa p.out C.out;go_wp2;exact bodyPost_ret (v:= .agg #[.int .i64 (x:Int),.int .i64 (y:Int)]) (by simp[results,Tryz.results97,go_sem,Q,T,U,V]) rfl ⟨rfl,(am.out.setCell oS _).setCell oS _⟩
 |false=>
  have ac:Hid (∀W,af l W->Calls Tryz.prog 138 #[.int .i64 d,.pointer (some ⟨hb,0,none⟩),.pointer (some ⟨r,0,none⟩)] W λe w'=>e= .returned (.int .i64 ((bB L false d:Nat):Int))/\Below W.heap.size W w'):=λW a=>(jf L d hb r W g E ((H.out.dz (aP.below (aa p.out a))).H rfl)).mono (by rintro e f ⟨rfl,rfl⟩;exact⟨rfl,Below.refl _ _⟩);have ad:Hid (∀W,af l W->Calls Tryz.prog 138 #[.int .i64 b,.pointer (some ⟨hb,0,none⟩),.pointer (some ⟨r,0,none⟩)] W λe w'=>e= .returned (.int .i64 ((bB L false b:Nat):Int))/\Below W.heap.size W w'):=λW a=>(jf L b hb r W g D ((H.out.dz (aP.below (aa p.out a))).H rfl)).mono (by rintro e f ⟨rfl,rfl⟩;exact⟨rfl,Below.refl _ _⟩);have A:Hid (∀W,af l W->W.cell? ⟨F,0,none⟩=some (.func (Fn.func 138) #[] #[.pointer (some ⟨hb,0,none⟩),.pointer (some ⟨r,0,none⟩)])/\W.cell? ⟨lb,0,none⟩=some (.int .i64 m)/\W.cell? ⟨G,0,none⟩=some (.int .i64 i)):=by
   show∀W,_;intro W a;have h:=H.out.dz (aP.below (aa p.out a));have al:=av.out.below (aa p.out a);refine⟨h.P.cell 0 _ rfl,?_,al.cell 0 _ rfl⟩;rw[B];exact h.Q.cell 0 _ rfl
  rw[ap.out];have bi:Hid (bB L false d<=200/\bB L false b<=200):=by
   have:=eJ g E;have:=eJ g D;have:=gM (c:=false) g
   show _/\_;omega
  generalize bB L false d=x at*;generalize bB L false b=y at*;clear O P K M N B X Y Z ab a3 a4 D a5 a6 E o a1 a2 g;subst J;go_enter Tryz.func97,Tryz.ntmps97;go_wp2;refine bj (S:=(λW=>af (w.alloc (.cells #[.int .i64 0,.int .i64 0] 47)) W)) 14 oK oK (ai (Below.refl _ _)) ?_;simp only[List.take_succ_cons,List.take_zero,List.drop_succ_cons,List.drop_zero]
  repeat refine kO A.out ?_
  refine kX (λW a=>ac.out W a) ?_
  repeat refine kO A.out ?_
  refine kX (λW a=>ad.out W a) ?_;refine bR ?_;intro f o;have C:=Lib.hid o;clear o;have n:=Lib.hid (a0.out _ C.out);have Q:f.cell? ⟨w.heap.size,0,none⟩=some (.int .i64 0):=n.out.cell 0 _ rfl;have T:f.cell? ⟨w.heap.size,1,none⟩=some (.int .i64 0):=n.out.cell 1 _ rfl;have U:f.frozen? ⟨w.heap.size,0,none⟩=false:=frozen_of_row _ _ _ _ _ n.out;have V:f.frozen? ⟨w.heap.size,1,none⟩=false:=frozen_of_row _ _ _ _ _ n.out;have am:Hid (Below w.heap.size w f):=aa p.out C.out;go_wp2;exact bodyPost_ret (v:= .agg #[.int .i64 (x:Int),.int .i64 (y:Int)]) (by simp[results,Tryz.results97,go_sem,Q,T,U,V]) rfl ⟨rfl,(am.out.setCell oS _).setCell oS _⟩
structure BP (n:Nat) (w wr:World) (a:Nat) (ps:List Pt):Prop where
 B:Below n w wr
 X:∃A c,ae wr a #[.slice A ps.length c] 40/\wr.ownsRow n 47 2 (.slice A ps.length c) ps.length (ps.flatMap eS)
 n1:n<=a
 n2:n<=wr.heap.size
theorem BP.below {n:Nat} {w wr W:World} {b:Nat} {ps:List Pt} (h:BP n w wr b ps) (a:Below wr.heap.size wr W):BP n w W b ps:=by
 obtain⟨A,c,d,e⟩:=h.X;exact⟨h.B.trans (a.mono h.n2),⟨A,c,d.below a,ao e a⟩,h.n1,Nat.le_trans h.n2 a.size⟩
theorem qa {n:Nat} {w:World} {a q:Nat} {u:Value} {v:Value} {k:Nat} {xs:List Value} (b:ae w a #[u] 40) (c:w.ownsRow n 47 2 v k xs) (hq:v.ownBlock=some q):q≠a:=by
 rcases c.2 with⟨rfl,_⟩|⟨g,cap,d,rfl,_,hg,_⟩
 ·cases hq
 ·simp only[Value.ownBlock,Option.some.injEq]at hq;subst hq;intro e;subst e;unfold ae at b;rw[b]at hg;injection hg with hg;injection hg with _ e _;exact absurd e oD
theorem aP.grown {n:Nat} {w W:World} {v:Value} {k:Nat} {xs:List Value} (h:w.ownsRow n 47 2 v k xs) (hg:w.grownBy W v.ownBlock):aP w W:=by
 intro q c a hn;refine(hg.block q (ar a) ?_).trans a;intro e;rcases h.2 with⟨rfl,_⟩|⟨g,cap,d,rfl,_,b,_⟩
 ·cases e
 ·simp only[Value.ownBlock,Option.some.injEq]at e;subst e;rw[b]at a;injection a with a;subst a;exact absurd hn (by simp[notPts])
theorem aP.jn {w:World} {g i:Nat} {b:Array Value} (h:ae w g b 40) (u:Value):aP w (w.setCell ⟨g,i,none⟩ u):=by
 intro q c a hn;refine(Below.heap_setCell _ _ _ _ ?_).trans a;intro e;subst e;unfold ae at h;rw[h]at a;injection a with a;subst a;exact absurd hn (by simp[notPts])
theorem H4 {n:Nat} {w:World} {b:Nat} {u:Value} {v:Value} {k:Nat} {xs:List Value} (c:ae w b #[u] 40) (a:w.ownsRow n 47 2 v k xs) (y:Value):(w.setCell ⟨b,0,none⟩ y).ownsRow n 47 2 v k xs:=by
 refine⟨a.1,?_⟩;rcases a.2 with d|⟨g,cap,e,e1,e2,e3,e4⟩
 ·exact .inl d
 ·refine .inr ⟨g,cap,e,e1,e2,(Below.heap_setCell _ _ _ _ ?_).trans e3,e4⟩;exact qa c a (by rw[e1];rfl)
theorem mz {a:Act} {b:Oper} {W:World} {x q:Operand} (d:b.op= .store 40 q x) (p:Addr) (A:Option Addr) (n c:Nat) (hq:a.eval q= .pointer (some p)) (e:a.eval x= .slice A n c) {u:Value} (hc:W.cell? p=some u) (f:W.frozen? p=false):
 (execOp a.eval b).run Tryz.prog W= .ok .skip (W.setCell p (.slice A n c)):=by
 unfold execOp;simp only[d,hq,e,Instr.storeAt,Instr.sureAddr,Sem.run_bind,Sem.run_pure,Result.andThen_ok];go_simp
theorem fY {i:Array Oper} {S:World->Prop} {K:Act->World->Prop} {r:List (Bool×Nat×Oper)} {k:Nat} {d:Oper} {a:Act} {W:World} {base:Nat} {A:Option Addr} {g:Addr} {n c m l:Nat} {xs ys:List Pt} (q:W.ownsRow base 47 2 (.slice A n c) n (xs.flatMap eS)) (hb:base<=W.heap.size)
 (B:Region.wanted d (yielded i a.tmps)=true) (s y:Operand) (t:d.op= .call {callee:= .builtin .append,args:=#[s,y],argTypes:=#[40,40]}) (hs:a.eval s= .slice A n c) (v:a.eval y= .slice (some g) m l) (w:m=ys.length)
 (x:∀j u,(ys.flatMap eS)[j]?=some u->W.cell? (g.add j)=some u) (hl:n+m<=1000000)
 (z:∀e f b,b.ownsRow base 47 2 (.slice e (n+m) f) (n+m) ((xs++ys).flatMap eS)->W.grownBy b (Value.slice A n c).ownBlock->S b/\bC Tryz.prog i S K r (a.put d.dst (.slice e (n+m) f)) b):
 bC Tryz.prog i S K ((true,k,d)::r) a W:=by
 obtain⟨D,b,C,p,hg,-⟩:=wE d.type q hb g m l ys w x hl;obtain⟨e,f,rfl⟩:=cd p;have o:=z e f b p hg;refine gK B ?_ o.1 o.2;unfold execOp;simp only[t,resolve,invoke,builtin,Sem.run_bind,Sem.run_pure,Result.andThen_ok,List.map_toArray,List.map_cons,List.map_nil,hs,v,C]
theorem jj (n:Nat) (w0 w:World) (d:Nat) (ps:List Pt) (J:Nat) (T:Array Value) (L i s r:Nat) (c:Bool) (h:BP n w0 w d ps) (hl:ps.length<=60000) (cx:r<=140) (c3:∀(args:Array Value) (W:World),(callFunc J args).run Tryz.prog W= .ok (.enter J args) W)
 (bz:∀W,aP w W->∀j,j<r->Calls Tryz.prog J (#[.int .i64 j,.int .i64 0]++T) W λe w'=>e= .returned (.agg #[.int .i64 (((eR L c i s j 0).1:Nat):Int),.int .i64 (((eR L c i s j 0).2:Nat):Int)])/\Below W.heap.size W w')
 (b1:∀W,aP w W->∀j,j<r->Calls Tryz.prog J (#[.int .i64 j,.int .i64 1]++T) W λe w'=>e= .returned (.agg #[.int .i64 (((eR L c i s j 1).1:Nat):Int),.int .i64 (((eR L c i s j 1).2:Nat):Int)])/\Below W.heap.size W w'):
 Calls Tryz.prog 93 #[.int .i64 r,.func (Fn.func J) #[] T,.pointer (some ⟨d,0,none⟩)] w λe w'=>e= .returned (.tuple #[])/\BP n w0 w' d (ps++jL L c i s r)/\aP w w':=by
 have bf:Hid (BP n w0 w d (ps++jL L c i s 0)/\aP w w):=by
  show _/\_;rw[show jL L c i s 0=[]from rfl,List.append_nil];exact⟨h,aP.refl _⟩
 have b7:=Lib.hid bz;have b8:=Lib.hid b1;clear h bz b1;go_enter Tryz.func93,Tryz.ntmps93;go_wp2;go_loopw [7] (λav wr=>∃j:Nat,j<=r/\av= .int .i64 j/\Hid (BP n w0 wr d (ps++jL L c i s j)/\aP w wr)) (λav _=>r-(intOf av).toNat)
 case atStart=>exact⟨0,Nat.zero_le _,rfl,bf⟩
 case round=>
  clear bf;obtain⟨j,cy,rfl,E⟩:=hrel;by_cases bs:j<r
  ·obtain⟨A,D,bi,bo⟩:=E.out.1.X;have o:=Lib.hid bi;have p:=Lib.hid bo;have m:Hid (n<=d/\n<=wr.heap.size):=⟨E.out.1.n1,E.out.1.n2⟩;have V:=Lib.hid E.out.1.B;have a0:=Lib.hid E.out.2;have b9:Hid (ps++jL L c i s (j+1)=(ps++jL L c i s j)++[eR L c i s j 0,eR L c i s j 1]):=by
    show _=_;rw[DI,List.append_assoc];rfl
   have X:Hid ((ps++jL L c i s j).length<=70000):=by
    show _<=_;rw[List.length_append,r5];omega
   have bt:Hid (∀W,aP wr W->Calls Tryz.prog J (#[.int .i64 j,.int .i64 0]++T) W λe w'=>e= .returned (.agg #[.int .i64 (((eR L c i s j 0).1:Nat):Int),.int .i64 (((eR L c i s j 0).2:Nat):Int)])/\Below W.heap.size W w'):=λW P=>b7.out W (a0.out.trans P) j bs;have a3:Hid (∀W,aP wr W->Calls Tryz.prog J (#[.int .i64 j,.int .i64 1]++T) W λe w'=>e= .returned (.agg #[.int .i64 (((eR L c i s j 1).1:Nat):Int),.int .i64 (((eR L c i s j 1).2:Nat):Int)])/\Below W.heap.size W w'):=λW P=>b8.out W (a0.out.trans P) j bs;have c2:Hid (∀W,af wr W->W.cell? ⟨d,0,none⟩=some (.slice A (ps++jL L c i s j).length D)):=λW P=>(o.out.below P).cell 0 _ rfl;generalize eR L c i s j 0=f at*;generalize eR L c i s j 1=p1 at*;generalize ca:ps++jL L c i s j=a1 at*;generalize bv:a1.length=nl at*;have cb:=Lib.hid bv;clear ca bv bi bo E;go_wp2;have Q:Hid (af wr wr.drew):=ai (Below.refl _ _);have ac:Hid (∀g l a,Below n w0 a->a.ownsRow n 47 2 (.slice g (nl+2) l) (nl+2) ((a1++[f,p1]).flatMap eS)->ae a d #[.slice A nl D] 40->aP wr a->n<=a.heap.size->Hid (BP n w0 (a.setCell ⟨d,0,none⟩ (.slice g (nl+2) l)) d (ps++jL L c i s (j+1))/\aP w (a.setCell ⟨d,0,none⟩ (.slice g (nl+2) l)))):=by
    show∀_ _ _,_;intro g l a ce cg a4 ch ci;have bq:(a1++[f,p1]).length=nl+2:=by rw[List.length_append,cb.out];rfl
    show BP _ _ _ _ _/\_;rw[b9.out];refine⟨⟨ce.setCell (by exact m.out.1) _,⟨g,l,?_,?_⟩,m.out.1,by simpa using ci⟩,(a0.out.trans ch).trans (aP.jn a4 _)⟩
    ·rw[bq];exact a4.jn _
    ·rw[bq];exact H4 a4 cg _
   refine pn (S:=λ_=>True) (.br [(false,1),(false,2),(false,4),(false,5)] [0,3] (λk=>if k=0 then .last [(true,3),(true,6),(true,7),(true,8),(true,9)]else .br [] [0,6] (λk=>if k=0 then .last [(true,6),(true,7),(true,8),(true,9)]else .br [] [0,7] (λk=>if k=0 then .last [(true,7),(true,8),(true,9)]else .last [(true,0),(true,8),(true,9)])))) oK oK trivial ?_;simp only[reduceIte,Nat.reduceEqDiff,wpTree,attachW,List.getElem?_cons_zero,List.getElem?_cons_succ];refine zU ?_;refine zU ?_;refine zU ?_;refine zU ?_;refine ag ?_;intro k F;simp only[List.mem_cons,List.not_mem_nil,or_false]at F;rcases F with rfl|rfl
   ·simp only[reduceIte,Nat.reduceEqDiff,wpTree,attachW,List.getElem?_cons_zero,List.getElem?_cons_succ];refine' zQ (v:= .slice A nl D) (w':=wr.drew) rfl (by have a2:=(o.out.below Q.out).cell 0 _ rfl;go_simp) trivial ?_;refine ag ?_
    (try simp only[reduceIte,Nat.reduceEqDiff,wpTree,attachW,List.getElem?_cons_zero,List.getElem?_cons_succ])
    refine zZ ?_;refine(bt.out _ (aP.below Q.out)).mono ?_;rintro e ck ⟨rfl,hb⟩;have b2:Hid (af wr ck):=aa Q.out hb;clear hb;refine⟨_,rfl,trivial,jO ?_⟩;refine zZ ?_;refine(a3.out _ (aP.below b2.out)).mono ?_;rintro e Y ⟨rfl,hb⟩;have co:Hid (af wr Y):=aa b2.out hb;clear hb;refine⟨_,rfl,trivial,jO ?_⟩;obtain⟨a5,ad⟩:∃H,H=Y.alloc (.cells #[.int .i64 (f.1:Int),.int .i64 (f.2:Int),.int .i64 (p1.1:Int),.int .i64 (p1.2:Int)] 47):=⟨_,rfl⟩;have y:Hid (af wr a5):=by show Below _ _ _;rw[ad];exact ah co.out _
    obtain⟨b3,a9⟩:∃b,b=Y.heap.size:=⟨_,rfl⟩;have cp:Hid (∀j u,(([f,p1]:List Pt).flatMap eS)[j]?=some u->a5.cell? ((⟨b3,0,none⟩:Addr).add j)=some u):=by show∀_ _,_;rw[ad,a9];exact gh Y [f,p1] _
    refine' zQ (v:= .slice (some ⟨b3,0,none⟩) 2 2) (w':=a5) rfl (by rw[ad,a9];go_simp) trivial ?_;clear ad a9;refine' fY (ys:=[f,p1]) (ao p.out y.out) (Nat.le_trans m.out.2 y.out.size) rfl _ _ rfl rfl rfl rfl cp.out (by have:=X.out;omega) ?_;intro g l a C hg;have K:=Lib.hid C;have t:Hid (ae a d #[.slice A nl D] 40):=(hg.block d (ar (o.out.below y.out)) (λe=>qa (o.out.below y.out) (ao p.out y.out) e.symm rfl)).trans (o.out.below y.out);have M:Hid (aP wr a):=(aP.below y.out).trans (aP.grown (ao p.out y.out) hg);have N:Hid (Below n w0 a):=(V.out.trans (y.out.mono m.out.2)).grown hg (Nat.le_trans m.out.2 y.out.size) (λq hq=>((ao p.out y.out).lt q hq).1);have O:Hid (n<=a.heap.size):=Nat.le_trans m.out.2 (Nat.le_trans y.out.size hg.size);clear C hg;refine⟨trivial,?_⟩;simp only[yQ,yU,yX,yY];refine' aY (w':=a.setCell ⟨d,0,none⟩ (.slice g (nl+2) l)) rfl (mz rfl ⟨d,0,none⟩ g (nl+2) l rfl rfl (t.out.cell 0 _ rfl) (frozen_of_row _ _ _ _ _ t.out)) trivial ?_;simp only[yQ,yU,yX,yY];refine ag ?_;go_wp2;exact⟨⟨j+1,by omega,by go_num,ac.out g l a N.out K.out t.out M.out O.out⟩,by simp[intOf];omega⟩
   ·simp only[reduceIte,Nat.reduceEqDiff,wpTree,attachW,List.getElem?_cons_zero,List.getElem?_cons_succ];refine zZ ?_;refine(bt.out _ (aP.below Q.out)).mono ?_;rintro e bx ⟨rfl,hb⟩;have U:Hid (af wr bx):=aa Q.out hb;clear hb;refine⟨_,rfl,trivial,jO ?_⟩;refine ag ?_
    (try simp only[reduceIte,Nat.reduceEqDiff,wpTree,attachW,List.getElem?_cons_zero,List.getElem?_cons_succ])
    refine ag ?_;intro k F;simp only[List.mem_cons,List.not_mem_nil,or_false]at F;rcases F with rfl|rfl
    ·simp only[reduceIte,Nat.reduceEqDiff,wpTree,attachW,List.getElem?_cons_zero,List.getElem?_cons_succ];refine' zQ (v:= .slice A nl D) (w':=bx) rfl (by have a2:=(o.out.below U.out).cell 0 _ rfl;go_simp) trivial ?_;refine ag ?_
     (try simp only[reduceIte,Nat.reduceEqDiff,wpTree,attachW,List.getElem?_cons_zero,List.getElem?_cons_succ])
     refine zZ ?_;refine(a3.out _ (aP.below U.out)).mono ?_;rintro e Z ⟨rfl,hb⟩;have cq:Hid (af wr Z):=aa U.out hb;clear hb;refine⟨_,rfl,trivial,jO ?_⟩;obtain⟨a6,al⟩:∃H,H=Z.alloc (.cells #[.int .i64 (f.1:Int),.int .i64 (f.2:Int),.int .i64 (p1.1:Int),.int .i64 (p1.2:Int)] 47):=⟨_,rfl⟩;have z:Hid (af wr a6):=by show Below _ _ _;rw[al];exact ah cq.out _
     obtain⟨b4,bb⟩:∃b,b=Z.heap.size:=⟨_,rfl⟩;have cr:Hid (∀j u,(([f,p1]:List Pt).flatMap eS)[j]?=some u->a6.cell? ((⟨b4,0,none⟩:Addr).add j)=some u):=by show∀_ _,_;rw[al,bb];exact gh Z [f,p1] _
     refine' zQ (v:= .slice (some ⟨b4,0,none⟩) 2 2) (w':=a6) rfl (by rw[al,bb];go_simp) trivial ?_;clear al bb;refine' fY (ys:=[f,p1]) (ao p.out z.out) (Nat.le_trans m.out.2 z.out.size) rfl _ _ rfl rfl rfl rfl cr.out (by have:=X.out;omega) ?_;intro g l a C hg;have K:=Lib.hid C;have t:Hid (ae a d #[.slice A nl D] 40):=(hg.block d (ar (o.out.below z.out)) (λe=>qa (o.out.below z.out) (ao p.out z.out) e.symm rfl)).trans (o.out.below z.out);have M:Hid (aP wr a):=(aP.below z.out).trans (aP.grown (ao p.out z.out) hg);have N:Hid (Below n w0 a):=(V.out.trans (z.out.mono m.out.2)).grown hg (Nat.le_trans m.out.2 z.out.size) (λq hq=>((ao p.out z.out).lt q hq).1);have O:Hid (n<=a.heap.size):=Nat.le_trans m.out.2 (Nat.le_trans z.out.size hg.size);clear C hg;refine⟨trivial,?_⟩;simp only[yQ,yU,yX,yY];refine' aY (w':=a.setCell ⟨d,0,none⟩ (.slice g (nl+2) l)) rfl (mz rfl ⟨d,0,none⟩ g (nl+2) l rfl rfl (t.out.cell 0 _ rfl) (frozen_of_row _ _ _ _ _ t.out)) trivial ?_;simp only[yQ,yU,yX,yY];refine ag ?_;go_wp2;exact⟨⟨j+1,by omega,by go_num,ac.out g l a N.out K.out t.out M.out O.out⟩,by simp[intOf];omega⟩
    ·simp only[reduceIte,Nat.reduceEqDiff,wpTree,attachW,List.getElem?_cons_zero,List.getElem?_cons_succ];refine zZ ?_;refine(a3.out _ (aP.below U.out)).mono ?_;rintro e G ⟨rfl,hb⟩;have a8:Hid (af wr G):=aa U.out hb;clear hb;refine⟨_,rfl,trivial,jO ?_⟩;refine ag ?_
     (try simp only[reduceIte,Nat.reduceEqDiff,wpTree,attachW,List.getElem?_cons_zero,List.getElem?_cons_succ])
     refine ag ?_;intro k F;simp only[List.mem_cons,List.not_mem_nil,or_false]at F;rcases F with rfl|rfl
     ·simp only[reduceIte,Nat.reduceEqDiff,wpTree,attachW,List.getElem?_cons_zero,List.getElem?_cons_succ];refine' zQ (v:= .slice A nl D) (w':=G) rfl (by have a2:=(o.out.below a8.out).cell 0 _ rfl;go_simp) trivial ?_;refine ag ?_
      (try simp only[reduceIte,Nat.reduceEqDiff,wpTree,attachW,List.getElem?_cons_zero,List.getElem?_cons_succ])
      obtain⟨a7,am⟩:∃H,H=G.alloc (.cells #[.int .i64 (f.1:Int),.int .i64 (f.2:Int),.int .i64 (p1.1:Int),.int .i64 (p1.2:Int)] 47):=⟨_,rfl⟩;have B:Hid (af wr a7):=by show Below _ _ _;rw[am];exact ah a8.out _
      obtain⟨b5,bd⟩:∃b,b=G.heap.size:=⟨_,rfl⟩;have cs:Hid (∀j u,(([f,p1]:List Pt).flatMap eS)[j]?=some u->a7.cell? ((⟨b5,0,none⟩:Addr).add j)=some u):=by show∀_ _,_;rw[am,bd];exact gh G [f,p1] _
      refine' zQ (v:= .slice (some ⟨b5,0,none⟩) 2 2) (w':=a7) rfl (by rw[am,bd];go_simp) trivial ?_;clear am bd;refine' fY (ys:=[f,p1]) (ao p.out B.out) (Nat.le_trans m.out.2 B.out.size) rfl _ _ rfl rfl rfl rfl cs.out (by have:=X.out;omega) ?_;intro g l a C hg;have K:=Lib.hid C;have t:Hid (ae a d #[.slice A nl D] 40):=(hg.block d (ar (o.out.below B.out)) (λe=>qa (o.out.below B.out) (ao p.out B.out) e.symm rfl)).trans (o.out.below B.out);have M:Hid (aP wr a):=(aP.below B.out).trans (aP.grown (ao p.out B.out) hg);have N:Hid (Below n w0 a):=(V.out.trans (B.out.mono m.out.2)).grown hg (Nat.le_trans m.out.2 B.out.size) (λq hq=>((ao p.out B.out).lt q hq).1);have O:Hid (n<=a.heap.size):=Nat.le_trans m.out.2 (Nat.le_trans B.out.size hg.size);clear C hg;refine⟨trivial,?_⟩;simp only[yQ,yU,yX,yY];refine' aY (w':=a.setCell ⟨d,0,none⟩ (.slice g (nl+2) l)) rfl (mz rfl ⟨d,0,none⟩ g (nl+2) l rfl rfl (t.out.cell 0 _ rfl) (frozen_of_row _ _ _ _ _ t.out)) trivial ?_;simp only[yQ,yU,yX,yY];refine ag ?_;go_wp2;exact⟨⟨j+1,by omega,by go_num,ac.out g l a N.out K.out t.out M.out O.out⟩,by simp[intOf];omega⟩
     ·simp only[reduceIte,Nat.reduceEqDiff,wpTree,attachW,List.getElem?_cons_zero,List.getElem?_cons_succ];obtain⟨ab,ap⟩:∃H,H=G.alloc (.cells #[.int .i64 (f.1:Int),.int .i64 (f.2:Int),.int .i64 (p1.1:Int),.int .i64 (p1.2:Int)] 47):=⟨_,rfl⟩;have x:Hid (af wr ab):=by show Below _ _ _;rw[ap];exact ah a8.out _
      obtain⟨b6,be⟩:∃b,b=G.heap.size:=⟨_,rfl⟩;have cv:Hid (∀j u,(([f,p1]:List Pt).flatMap eS)[j]?=some u->ab.cell? ((⟨b6,0,none⟩:Addr).add j)=some u):=by show∀_ _,_;rw[ap,be];exact gh G [f,p1] _
      refine' zQ (v:= .slice (some ⟨b6,0,none⟩) 2 2) (w':=ab) rfl (by rw[ap,be];go_simp) trivial ?_;clear ap be;refine ag ?_
      (try simp only[reduceIte,Nat.reduceEqDiff,wpTree,attachW,List.getElem?_cons_zero,List.getElem?_cons_succ])
      refine' zQ (v:= .slice A nl D) (w':=ab) rfl (by have a2:=(o.out.below x.out).cell 0 _ rfl;go_simp) trivial ?_;refine' fY (ys:=[f,p1]) (ao p.out x.out) (Nat.le_trans m.out.2 x.out.size) rfl _ _ rfl rfl rfl rfl cv.out (by have:=X.out;omega) ?_;intro g l a C hg;have K:=Lib.hid C;have t:Hid (ae a d #[.slice A nl D] 40):=(hg.block d (ar (o.out.below x.out)) (λe=>qa (o.out.below x.out) (ao p.out x.out) e.symm rfl)).trans (o.out.below x.out);have M:Hid (aP wr a):=(aP.below x.out).trans (aP.grown (ao p.out x.out) hg);have N:Hid (Below n w0 a):=(V.out.trans (x.out.mono m.out.2)).grown hg (Nat.le_trans m.out.2 x.out.size) (λq hq=>((ao p.out x.out).lt q hq).1);have O:Hid (n<=a.heap.size):=Nat.le_trans m.out.2 (Nat.le_trans x.out.size hg.size);clear C hg;refine⟨trivial,?_⟩;simp only[yQ,yU,yX,yY];refine' aY (w':=a.setCell ⟨d,0,none⟩ (.slice g (nl+2) l)) rfl (mz rfl ⟨d,0,none⟩ g (nl+2) l rfl rfl (t.out.cell 0 _ rfl) (frozen_of_row _ _ _ _ _ t.out)) trivial ?_;simp only[yQ,yU,yX,yY];refine ag ?_;go_wp2;exact⟨⟨j+1,by omega,by go_num,ac.out g l a N.out K.out t.out M.out O.out⟩,by simp[intOf];omega⟩
  ·obtain rfl:j=r:=oO;go_wp2;refine bodyPost_end (results_none rfl _ _ _) rfl ?_;exact⟨rfl,E.out.1,E.out.2⟩
end
end Go.Proofs.YtmnlkganmgcpbaaGreatDoor
