import Derived.Test.YtmnlkganmgcpbaaGreatDoorQk15
set_option maxRecDepth 100000
set_option maxHeartbeats 4000000
set_option linter.unusedVariables false
set_option linter.unusedSectionVars false
set_option linter.unusedSimpArgs false
namespace Go.Proofs.YtmnlkganmgcpbaaGreatDoor
section
open Go.RowKit
abbrev Pt:=Nat×Nat
def eS (p:Pt):List Value:=[.int .i64 (p.1:Int),.int .i64 (p.2:Int)]
theorem K5 (p:Pt):∀v∈eS p,v.oneCell'=true:=by
 intro v a;simp only[eS,List.mem_cons,List.not_mem_nil,or_false]at a;rcases a with rfl|rfl<;>rfl
theorem I3 (l:List Pt):∀v∈l.flatMap eS,v.oneCell'=true:=by
 intro v a;obtain⟨p,-,b⟩:=List.mem_flatMap.1 a;exact K5 p v b
theorem uT (l:List Pt):(l.flatMap eS).length=l.length* 2:=by
 induction l with
 |nil=>rfl
 |cons p l a=>simp only[List.flatMap_cons,List.length_append,a,List.length_cons];show 2+_=_;omega
theorem Bf (l:List Pt) (i:Nat) (a:i<l.length):(l.flatMap eS)[2* i]?=some (.int .i64 ((l.getD i (0,0)).1:Int))/\(l.flatMap eS)[2* i+1]?=some (.int .i64 ((l.getD i (0,0)).2:Int)):=by
 induction l generalizing i with
 |nil=>simp at a
 |cons p l b=>
  cases i with
  |zero=>exact⟨rfl,rfl⟩
  |succ i=>
   have h:=b i (by simpa using a);simp only[List.flatMap_cons,eS];rw[show 2* (i+1)=2* i+2 from by omega];simp only[List.cons_append,List.nil_append,List.getElem?_cons_succ,List.getD_cons_succ];exact h
theorem sW:(Tryz.prog.info? 47).map (λi=>(i.zero,i.size,i.bytes))=some (some (.agg #[.int .i64 0,.int .i64 0]),2,16):=oK
def KY (w:World) (A:Option Addr) (xs:List Pt):Prop:=0<xs.length->∃g a,A=some ⟨g,a,none⟩/\g<w.heap.size/\∀j,j<xs.length->w.cell? ⟨g,a+j* 2,none⟩=some (.int .i64 ((xs.getD j (0,0)).1:Int))/\w.cell? ⟨g,a+j* 2+1,none⟩=some (.int .i64 ((xs.getD j (0,0)).2:Int))
theorem KY.below {W a:World} {A:Option Addr} {xs:List Pt} (h:KY W A xs) (hb:Below W.heap.size W a):KY a A xs:=λhn=>by
 obtain⟨g,c,e,hl,hc⟩:=h hn;exact⟨g,c,e,Nat.lt_of_lt_of_le hl hb.size,λj b=>⟨(hb.cell hl).trans (hc j b).1,(hb.cell hl).trans (hc j b).2⟩⟩
def SP (w:World) (v:Value) (xs:List Pt):Prop:=∃A c,v= .slice A xs.length c/\xs.length<=c/\c<=maxLen/\KY w A xs
theorem SP.below {W a:World} {v:Value} {xs:List Pt} (h:SP W v xs) (hb:Below W.heap.size W a):SP a v xs:=by
 obtain⟨A,c,rfl,b,d,e⟩:=h;exact⟨A,c,rfl,b,d,e.below hb⟩
theorem SP.dI (w:World):SP w (.slice none 0 0) []:=⟨none,0,rfl,by simp,by simp,λh=>absurd h oS⟩
theorem SP.cd {W:World} {base:Nat} {e:TypeId} {n:Nat} {v:Value} {xs:List Pt} (h:W.ownsRow base e 2 v n (xs.flatMap eS)):SP W v xs:=by
 have hl:xs.length=n:=by have:=h.1;rw[uT]at this;omega
 rcases h.2 with⟨rfl,rfl⟩|⟨g,cap,d,rfl,hb,hg,f,lH,_⟩
 ·have:xs=[]:=List.eq_nil_of_length_eq_zero hl;subst this;exact SP.dI _
 ·refine⟨_,cap,by rw[hl],by omega,lH,λhn=>⟨g,0,rfl,ar hg,λj c=>?_⟩⟩;have a:=Bf xs j c;have e:0+j* 2=2* j:=oO;have c1:=h.cells (g:=g) rfl (2* j) _ a.1;have b:=h.cells (g:=g) rfl (2* j+1) _ a.2;rw[add_plain,Nat.zero_add]at c1 b;rw[e];exact⟨c1,b⟩
structure dq (w wr:World) (v:Value) (l:List Pt):Prop where
 B:af w wr
 O:wr.ownsRow w.heap.size 47 2 v l.length (l.flatMap eS)
theorem wW {W:World} {base:Nat} {v:Value} {n:Nat} {l:List Pt} (d:TypeId) (f:W.ownsRow base 47 2 v n (l.flatMap eS)) (w:base<=W.heap.size) (b:Addr) (m c:Nat) (ys:List Pt) (g:m=ys.length)
 (hc:∀j u,(ys.flatMap eS)[j]?=some u->W.cell? (b.add j)=some u) (hl:n+m<=1000000):
 ∃a w',(Builtin.append_ #[40,40] d #[v,.slice (some b) m c]).run Tryz.prog W= .ok a w'/\w'.ownsRow base 47 2 a (n+m) ((l++ys).flatMap eS)/\W.grownBy w' v.ownBlock/\(a.ownBlock=v.ownBlock\/a.ownBlock=some W.heap.size):=by
 obtain⟨i,k,q,r,s⟩:=info_parts sW;obtain⟨a,w',t,e,o,_,p⟩:=run_append_own_at (P:=Tryz.prog) W base 40 d 47 i _ 2 16 Tryz.underlying40 k q r s rfl oO v n _ f b m c (ys.flatMap eS) (by rw[uT,g]) hc (I3 ys) oM oO w;rw[<-List.flatMap_append]at e;exact⟨a,w',t,e,o,p⟩
theorem iX {f:Array Oper} {g:List Oper} {d:Oper} {a:Act} {Q:Exit->Act->World->Prop} {W:World} {base:Nat} {v:Value} {n:Nat} {l:List Pt} (i:W.ownsRow base 47 2 v n (l.flatMap eS)) (B:base<=W.heap.size) (z:d.guard=none) (s y:Operand)
 (k:d.op= .call {callee:= .builtin .append,args:=#[s,y],argTypes:=#[40,40]}) (hs:a.eval s=v) (e:Addr) (m c:Nat) (ys:List Pt) (o:a.eval y= .slice (some e) m c) (p:m=ys.length)
 (hc:∀j u,(ys.flatMap eS)[j]?=some u->W.cell? (e.add j)=some u) (hl:n+m<=1000000)
 (q:∀b w',w'.ownsRow base 47 2 b (n+m) ((l++ys).flatMap eS)->W.grownBy w' v.ownBlock->(b.ownBlock=v.ownBlock\/b.ownBlock=some W.heap.size)->wpList Tryz.prog f Q g (a.put d.dst b) w'):wpList Tryz.prog f Q (d::g) a W:=by
 refine wpList_plain z λK r=>?_;obtain⟨b,w',A,t,w,x⟩:=wW d.type i B e m c ys p hc hl;unfold Oper.wp execOp;simp only[k,resolve,invoke,builtin,Sem.run_bind,Sem.run_pure,Result.andThen_ok,List.map_toArray,List.map_cons,List.map_nil,hs,o,A];exact r _ _ (q b w' t w x)
theorem dq.grow {w wr W a:World} {v v1:Value} {l ys:List Pt} (h:dq w wr v l) (b:Below wr.heap.size wr W) (d:a.ownsRow w.heap.size 47 2 v1 (l.length+ys.length) ((l++ys).flatMap eS)) (hg:W.grownBy a v.ownBlock):dq w a v1 (l++ys):=by
 refine⟨(ae h.B b).grown hg (by have:=(ae h.B b).size;exact this) (λk c=>(h.O.lt k c).1),?_⟩;rw[List.length_append];exact d
theorem gh (W:World) (ys:List Pt) (b:TypeId):∀j u,(ys.flatMap eS)[j]?=some u->(W.alloc (.cells (ys.flatMap eS).toArray b)).cell? ((⟨W.heap.size,0,none⟩:Addr).add j)=some u:=by
 intro j u a;have c:j<(ys.flatMap eS).length:=by
  rcases Nat.lt_or_ge j (ys.flatMap eS).length with h|h
  ·exact h
  ·rw[List.getElem?_eq_none h]at a;cases a
 rw[add_plain,Nat.zero_add];have:=(ak.new W (ys.flatMap eS).toArray b W.heap.size rfl).2 j (by simpa using c);rw[this];simp only[List.toList_toArray,List.getD,a,Option.getD_some]
def aW (L:Nat) (c:Bool) (i:Nat):Nat:=
 if c=true then i else if i<aC L c/2 then(aj L c-1)/2-1-(aC L c/2-1-i)-(aC L c/2-1-i)/15 else(aj L c-1)/2+1+(i-aC L c/2)+(i-aC L c/2)/15
theorem Lj {L i:Nat} (c:L<=32) (a:i<aC L false/2):((aW L false i:Nat):Int)=((aj L false:Int)-1)/2-1-((aC L false:Int)/2-1-i)-((aC L false:Int)/2-1-i)/15:=by
 have hb:aC L false=14+4* L:=rfl;have hs:aj L false=aC L false+1+2* ((aC L false/2-1)/15):=rfl;unfold aW;simp only[Bool.false_eq_true,if_false];rw[if_pos a];generalize aj L false=b at*;generalize aC L false=B at*;omega
theorem K6 {L i:Nat} (c:L<=32) (a:¬i<aC L false/2):((aW L false i:Nat):Int)=((aj L false:Int)-1)/2+1+((i:Int)-(aC L false:Int)/2)+((i:Int)-(aC L false:Int)/2)/15:=by
 have hb:aC L false=14+4* L:=rfl;have hs:aj L false=aC L false+1+2* ((aC L false/2-1)/15):=rfl;unfold aW;simp only[Bool.false_eq_true,if_false];rw[if_neg a];generalize aj L false=b at*;generalize aC L false=B at*;omega
def rN (L:Nat) (c:Bool) (i:Nat):Nat:=if c=true then 4* (L-i)+9 else 4* (L-i)+12
def sF (L:Nat) (c:Bool) (i s j k:Nat):Pt:=
 if s=0 then(2* i+k,2* i+j)else if s=1 then(2* i+j,aC L c-1-(2* i+k))else if s=2 then(aC L c-1-(2* i+k),aC L c-1-(2* i+j))else(aC L c-1-(2* i+j),2* i+k)
def Oe (L:Nat) (c:Bool) (p:Pt):Pt:=(aW L c p.1,aW L c p.2)
def eH (L:Nat) (c:Bool) (i s j k:Nat):Pt:=Oe L c (sF L c i s j k)
def kL (L:Nat) (c:Bool) (i s j k:Nat):List Pt:=(List.range k).map (eH L c i s j)
def jL (L:Nat) (c:Bool) (i s j:Nat):List Pt:=(List.range j).flatMap λj=>kL L c i s j 2
def sL (L:Nat) (c:Bool) (i s:Nat):List Pt:=(List.range s).flatMap λs=>jL L c i s (rN L c i)
def iL (L:Nat) (c:Bool) (i:Nat):List Pt:=(List.range i).flatMap λi=>sL L c i 4
def aZ (L:Nat) (c:Bool):List Pt:=iL L c L
theorem D6 (L:Nat) (c:Bool) (i s j:Nat):jL L c i s (j+1)=jL L c i s j++kL L c i s j 2:=by unfold jL;rw[List.range_succ,List.flatMap_append,List.flatMap_singleton]
theorem yf (L:Nat) (c:Bool) (i s:Nat):sL L c i (s+1)=sL L c i s++jL L c i s (rN L c i):=by unfold sL;rw[List.range_succ,List.flatMap_append,List.flatMap_singleton]
theorem ug (L:Nat) (c:Bool) (i:Nat):iL L c (i+1)=iL L c i++sL L c i 4:=by unfold iL;rw[List.range_succ,List.flatMap_append,List.flatMap_singleton]
theorem GU (L:Nat) (c:Bool) (i s j k:Nat):(kL L c i s j k).length=k:=by unfold kL;simp
theorem tu (L:Nat) (c:Bool) (i s:Nat):∀j,(jL L c i s j).length=2* j
 |0=>rfl
 |j+1=>by rw[D6,List.length_append,tu L c i s j,GU];omega
theorem nt (L:Nat) (c:Bool) (i:Nat):∀s,(sL L c i s).length=s* (2* rN L c i)
 |0=>by simp[sL]
 |s+1=>by rw[yf,List.length_append,nt L c i s,tu,Nat.add_mul,Nat.one_mul]
theorem Fj {L i:Nat} {c:Bool} (h:L<=32):rN L c i<=140:=by unfold rN;split<;>omega
theorem FA {L:Nat} {c:Bool} (h:L<=32):∀i,(iL L c i).length<=i* 1120
 |0=>by simp[iL]
 |i+1=>by
  have a:=FA (c:=c) h i;have b:=Fj (i:=i) (c:=c) h;rw[ug,List.length_append,nt];omega
def aN (c:Bool):Nat:=if c=true then 5 else 7
def aQ (L:Nat) (c:Bool):Nat:=(aj L c-1)/2
def lM (a b:Nat):Nat:=(a-b)+(b-a)
def gT (C:Nat) (p:Pt):Nat:=max (lM p.1 C) (lM p.2 C)
def bu (W:Nat) (p:Pt):Nat:=p.2* W+p.1
theorem eM {L i:Nat} {c:Bool} (b:L<=32) (a:i<aC L c):aW L c i<aj L c:=by
 cases c with
 |true=>unfold aW aj;simpa using a
 |false=>
  have hb:aC L false=14+4* L:=rfl;have hs:aj L false=aC L false+1+2* ((aC L false/2-1)/15):=rfl;rw[hb]at a hs;unfold aW;simp only[Bool.false_eq_true,if_false];rw[hb,hs];split<;>omega
theorem zv {L i j:Nat} {c:Bool} (d:L<=32) (b:i<j) (a:j<aC L c):aW L c i<aW L c j:=by
 cases c with
 |true=>unfold aW;simpa using b
 |false=>
  have hb:aC L false=14+4* L:=rfl;have hs:aj L false=aC L false+1+2* ((aC L false/2-1)/15):=rfl;rw[hb]at a hs;unfold aW;simp only[Bool.false_eq_true,if_false];rw[hb,hs];split<;>split<;>omega
theorem AO {L i j:Nat} {c:Bool} (b:L<=32) (d:i<aC L c) (e:j<aC L c) (h:aW L c i=aW L c j):i=j:=by
 rcases Nat.lt_trichotomy i j with a|a|a
 ·have:=zv b a e;omega
 ·exact a
 ·have:=zv b a d;omega
theorem Cx {L i:Nat} {c:Bool} (b:L<=32) (a:i<aC L c) (h:i<=2* L-1\/aC L c-1-i<=2* L-1) (d:1<=L):aN c<lM (aW L c i) (aQ L c):=by
 cases c with
 |true=>
  have hb:aC L true=11+4* L:=rfl;have hs:aj L true=aC L true:=rfl;rw[hb]at a h hs;unfold aW lM aQ aN;simp only[if_true];rw[hs];omega
 |false=>
  have hb:aC L false=14+4* L:=rfl;have hs:aj L false=aC L false+1+2* ((aC L false/2-1)/15):=rfl;rw[hb]at a hs h;unfold aW lM aQ aN;simp only[Bool.false_eq_true,if_false];rw[hb,hs];split<;>omega
theorem r9 {L i s j k:Nat} {c:Bool} (b:i<L) (a:j<rN L c i) (d:k<2):(sF L c i s j k).1<aC L c/\(sF L c i s j k).2<aC L c:=by
 unfold rN at a;unfold sF aC;cases c<;>simp only[Bool.false_eq_true,if_false,if_true]at a⊢<;>(repeat' split)<;>simp only<;>omega
theorem Mv {L i s j k:Nat} {c:Bool} (b:i<L) (a:j<rN L c i) (d:k<2):
 ((sF L c i s j k).1<=2* L-1\/aC L c-1-(sF L c i s j k).1<=2* L-1)\/((sF L c i s j k).2<=2* L-1\/aC L c-1-(sF L c i s j k).2<=2* L-1):=by
 unfold rN at a;unfold sF aC;cases c<;>simp only[Bool.false_eq_true,if_false,if_true]at a⊢<;>(repeat' split)<;>simp only<;>omega
theorem ML {L i s j k i' a d b:Nat} {c:Bool} (m:i<L) (e:j<rN L c i) (n:k<2) (hs:s<4) (o:i'<L) (f:d<rN L c i') (p:b<2) (q:a<4)
 (h:sF L c i s j k=sF L c i' a d b):i=i'/\s=a/\j=d/\k=b:=by
 unfold rN at e f;have g:=congrArg Prod.fst h;have l:=congrArg Prod.snd h;clear h;obtain rfl|rfl|rfl|rfl:s=0\/s=1\/s=2\/s=3:=oO
 all_goals obtain rfl|rfl|rfl|rfl:a=0\/a=1\/a=2\/a=3:=oO
 all_goals cases c
 all_goals simp only[sF,aC,Bool.false_eq_true,if_false,if_true,Nat.reduceEqDiff,Nat.succ_ne_zero,Nat.zero_ne_one,Nat.one_ne_zero,reduceIte]at e f g l
 all_goals first
  |omega
  |(
   obtain rfl|rfl:k=0\/k=1:=oO
   all_goals obtain rfl|rfl:b=0\/b=1:=oO
   all_goals omega)
theorem xl {L i s j k i' a b d:Nat} {c:Bool} (e:L<=32) (f:i<L) (g:j<rN L c i) (l:k<2) (hs:s<4) (m:i'<L) (n:b<rN L c i') (o:d<2) (t:a<4)
 (h:eH L c i s j k=eH L c i' a b d):i=i'/\s=a/\j=b/\k=d:=by
 have hb:=r9 (s:=s) f g l;have p:=r9 (s:=a) m n o;have q:=AO e hb.1 p.1 (congrArg Prod.fst h);have r:=AO e hb.2 p.2 (congrArg Prod.snd h);exact ML f g l hs m n o t (Prod.ext q r)
theorem CU {L:Nat} {c:Bool} {p:Pt} (h:p∈aZ L c):∃i s j k,i<L/\s<4/\j<rN L c i/\k<2/\p=eH L c i s j k:=by
 obtain⟨i,a,h⟩:=List.mem_flatMap.1 h;obtain⟨s,hs,h⟩:=List.mem_flatMap.1 h;obtain⟨j,b,h⟩:=List.mem_flatMap.1 h;obtain⟨k,d,h⟩:=List.mem_map.1 h;exact⟨i,s,j,k,List.mem_range.1 a,List.mem_range.1 hs,List.mem_range.1 b,List.mem_range.1 d,h.symm⟩
theorem rh {R:Nat->Nat->Prop} {n:Nat} (h:∀a b,a<b->b<n->R a b):(List.range n).Pairwise R:=by
 have c:(List.range n).Pairwise (λa b=>a<b):=List.pairwise_lt_range;refine c.imp_of_mem ?_;intro a b e hb d;exact h a b d (List.mem_range.1 hb)
theorem rT {L:Nat} {c:Bool} (o:L<=32):(aZ L c).Nodup:=by
 show List.Pairwise _ _;unfold aZ iL;rw[List.pairwise_flatMap];refine⟨λi g=>?_,rh λa b p hb x d y f=>?_⟩
 ·have g:=List.mem_range.1 g;unfold sL;rw[List.pairwise_flatMap];refine⟨λs hs=>?_,rh λa b p hb x d y f=>?_⟩
  ·have hs:=List.mem_range.1 hs;unfold jL;rw[List.pairwise_flatMap];refine⟨λj l=>?_,rh λa b p hb x d y f=>?_⟩
   ·have l:=List.mem_range.1 l;unfold kL;rw[List.pairwise_map];refine rh λa b p hb e=>?_;have:=xl o g l oO hs g l hb hs e;omega
   ·obtain⟨k,m,rfl⟩:=List.mem_map.1 d;obtain⟨r,n,rfl⟩:=List.mem_map.1 f;intro e;have:=xl o g oO (List.mem_range.1 m) hs g hb (List.mem_range.1 n) hs e;omega
  ·obtain⟨j,l,d⟩:=List.mem_flatMap.1 d;obtain⟨k,m,rfl⟩:=List.mem_map.1 d;obtain⟨t,q,f⟩:=List.mem_flatMap.1 f;obtain⟨r,n,rfl⟩:=List.mem_map.1 f;intro e;have:=xl o g (List.mem_range.1 l) (List.mem_range.1 m) oO g (List.mem_range.1 q) (List.mem_range.1 n) hb e;omega
 ·obtain⟨s,hs,d⟩:=List.mem_flatMap.1 d;obtain⟨j,l,d⟩:=List.mem_flatMap.1 d;obtain⟨k,m,rfl⟩:=List.mem_map.1 d;obtain⟨v,u,f⟩:=List.mem_flatMap.1 f;obtain⟨t,q,f⟩:=List.mem_flatMap.1 f;obtain⟨r,n,rfl⟩:=List.mem_map.1 f;intro e;have:=xl (i:=a) (i':=b) o (Nat.lt_trans p hb) (List.mem_range.1 l) (List.mem_range.1 m) (List.mem_range.1 hs) hb (List.mem_range.1 q) (List.mem_range.1 n) (List.mem_range.1 u) e;omega
theorem fL {L:Nat} {c:Bool} (a:L<=32) {p:Pt} (h:p∈aZ L c):p.1<aj L c/\p.2<aj L c:=by
 obtain⟨i,s,j,k,b,hs,d,e,rfl⟩:=CU h;have hb:=r9 (s:=s) b d e;exact⟨eM a hb.1,eM a hb.2⟩
theorem pg {L:Nat} {c:Bool} (b:L<=32) {p:Pt} (h:p∈aZ L c):aN c<gT (aQ L c) p:=by
 obtain⟨i,s,j,k,d,hs,e,f,rfl⟩:=CU h;have hb:=r9 (s:=s) d e f;unfold gT;rcases Mv (s:=s) d e f with a|a
 ·exact Nat.lt_of_lt_of_le (Cx b hb.1 a oO) (Nat.le_max_left _ _)
 ·exact Nat.lt_of_lt_of_le (Cx b hb.2 a oO) (Nat.le_max_right _ _)
theorem zC {L:Nat} {c:Bool}:∀i,i<=L->(iL L c i).length+16* (i* i)=32* (L* i)+(if c=true then 88* i else 112* i)
 |0,_=>by simp[iL]
 |i+1,h=>by
  have a:=zC (L:=L) (c:=c) i oO;rw[ug,List.length_append,nt];have e1:(i+1)* (i+1)=i* i+2* i+1:=by rw[Nat.add_mul,Nat.mul_add];omega
  have e2:L* (i+1)=L* i+L:=by rw[Nat.mul_add,Nat.mul_one]
  rw[e1,e2];unfold rN;cases c<;>simp only[Bool.false_eq_true,if_false,if_true]at a⊢<;>omega
theorem nf (L:Nat) (c:Bool):(aZ L c).length=ie L c:=by
 have h:=zC (c:=c) L (Nat.le_refl _);show(iL L c L).length=_;unfold ie;cases c<;>simp only[Bool.false_eq_true,if_false,if_true]at h⊢<;>rw[Nat.add_mul,Nat.mul_assoc]<;>omega
def bc (c:Bool):List Int:=if c=true then[-3,-2,-1,0,1,2,3]else[-5,-4,-3,-2,-1,1,2,3,4,5]
def mv (C:Nat) (a:Int):Nat:=((C:Int)+a).toNat
def cC (C:Nat) (c:Bool):List Pt:=
 (bc c).map (λa=>(mv C a,C-aN c))++(bc c).map (λa=>(C+aN c,mv C a))++(bc c).reverse.map (λa=>(mv C a,C+aN c))++(bc c).reverse.map (λa=>(C-aN c,mv C a))
def bG (C s:Nat):List Pt:=[(C-s,C-s),(C-s+1,C-s),(C-s,C-s+1),(C+s,C-s),(C+s,C-s+1),(C+s,C+s-1)]
def ba (C s:Nat):List Pt:=[(C+s-1,C-s),(C+s,C+s),(C+s-1,C+s),(C-s,C+s),(C-s+1,C+s),(C-s,C+s-1)]
theorem jg {L:Nat} {c:Bool} (a:1<=L) (b:L<=32):aN c+2<=aQ L c/\aQ L c+aN c+2<aj L c/\aj L c=2* aQ L c+1:=by
 cases c with
 |true=>
  have hb:aC L true=11+4* L:=rfl;have hs:aj L true=aC L true:=rfl;rw[hb]at hs;unfold aQ aN;simp only[if_true];rw[hs];omega
 |false=>
  have hb:aC L false=14+4* L:=rfl;have hs:aj L false=aC L false+1+2* ((aC L false/2-1)/15):=rfl;rw[hb]at hs;unfold aQ aN;simp only[Bool.false_eq_true,if_false];rw[hs];omega
theorem yF {c:Bool} {a:Int} (h:a∈bc c):-((aN c:Nat):Int)+2<=a/\a+2<=((aN c:Nat):Int):=by
 cases c with
 |true=>simp only[bc,if_true,List.mem_cons,List.not_mem_nil,or_false]at h;simp only[aN,if_true];omega
 |false=>simp only[bc,Bool.false_eq_true,if_false,List.mem_cons,List.not_mem_nil,or_false]at h;simp only[aN,Bool.false_eq_true,if_false];omega
theorem vw {C:Nat} {c:Bool} (f:aN c<=C) {p:Pt} (h:p∈cC C c):(∃e:Nat,C-aN c+2<=e/\e+2<=C+aN c/\(p=(e,C-aN c)\/p=(C+aN c,e)\/p=(e,C+aN c)\/p=(C-aN c,e))):=by
 have d:∀a∈bc c,C-aN c+2<=mv C a/\mv C a+2<=C+aN c:=λa b=>by
  have:=yF b;unfold mv;omega
 unfold cC at h;simp only[List.mem_append,List.mem_map,List.mem_reverse]at h;rcases h with((⟨a,b,rfl⟩|⟨a,b,rfl⟩)|⟨a,b,rfl⟩)|⟨a,b,rfl⟩
 ·exact⟨_,(d a b).1,(d a b).2,.inl rfl⟩
 ·exact⟨_,(d a b).1,(d a b).2,.inr (.inl rfl)⟩
 ·exact⟨_,(d a b).1,(d a b).2,.inr (.inr (.inl rfl))⟩
 ·exact⟨_,(d a b).1,(d a b).2,.inr (.inr (.inr rfl))⟩
theorem ER (c:Bool):aN c=5\/aN c=7:=by unfold aN;cases c<;>simp
theorem yn {C:Nat} {c:Bool} (a:aN c<=C) {p:Pt} (h:p∈cC C c):gT C p=aN c:=by
 obtain⟨d,e,f,b⟩:=vw a h;unfold gT lM;rcases b with rfl|rfl|rfl|rfl<;>simp only<;>omega
theorem mI {C:Nat} {c:Bool} (a:aN c<=C) {p:Pt} (h:p∈cC C c):p.1<2* C+1/\p.2<2* C+1:=by
 obtain⟨d,e,f,b⟩:=vw a h;rcases b with rfl|rfl|rfl|rfl<;>simp only<;>omega
theorem ky (C:Nat) (c:Bool):(cC C c).length=if c=true then 28 else 40:=by cases c<;>rfl
theorem FX {C:Nat} {c:Bool} (n:aN c<=C):(cC C c).Nodup:=by
 obtain⟨d,rfl⟩:∃d,C=aN c+d:=⟨C-aN c,by omega⟩;have hs:cC (aN c+d) c=(cC (aN c) c).map λp=>(p.1+d,p.2+d):=by
  have l:∀f∈bc c,mv (aN c+d) f=mv (aN c) f+d:=λf g=>by
   have:=yF g;unfold mv;omega
  unfold cC;simp only[List.map_append,List.map_map];refine congr (congrArg _ (congr (congrArg _ (congr (congrArg _ ?_) ?_)) ?_)) ?_
  all_goals refine List.map_congr_left λf g=>?_
  all_goals try simp only[List.mem_reverse]at g
  all_goals simp only[Function.comp,l f g]
  all_goals refine Prod.ext ?_ ?_<;>simp only<;>omega
 rw[hs];show List.Pairwise _ _;rw[List.pairwise_map];have i:(cC (aN c) c).Pairwise (·≠·):=by cases c<;>decide
 refine i.imp ?_;intro a b m e;apply m;have j:=congrArg Prod.fst e;have k:=congrArg Prod.snd e;simp only at j k;exact Prod.ext oO oO
def wrL (W:Nat):List Bool->List Pt->List Bool->List Bool
 |d,p::ps,b::a=>wrL W (d.set (bu W p) b) ps a
 |d,[],_=>d
 |d,_::_,[]=>d
def cA (W:Nat) (d:List Bool) (ps:List Pt):List Bool:=ps.map λp=>d.getD (bu W p) false
theorem mz (W:Nat) (d:List Bool) (a:List Bool):wrL W d [] a=d:=by unfold wrL;rfl
theorem dS (W:Nat):∀(d:List Bool) (ps:List Pt) (a:List Bool),(wrL W d ps a).length=d.length
 |d,[],a=>by rw[mz]
 |d,p::ps,[]=>rfl
 |d,p::ps,b::a=>by
  show(wrL W (d.set (bu W p) b) ps a).length=_;rw[dS,List.length_set]
theorem wU (W:Nat):∀(d:List Bool) (ps a:List Pt) (e c:List Bool),ps.length=e.length->wrL W d (ps++a) (e++c)=wrL W (wrL W d ps e) a c
 |d,[],a,[],c,_=>by rw[mz];rfl
 |d,p::ps,a,b::e,c,h=>by
  show wrL W (d.set (bu W p) b) (ps++a) (e++c)=wrL W (wrL W (d.set (bu W p) b) ps e) a c;exact wU W _ ps a e c (by simpa using h)
 |d,[],a,b::e,c,h=>by simp at h
 |d,p::ps,a,[],c,h=>by simp at h
theorem wF (W:Nat) (d:List Bool) (ps:List Pt) (a:List Bool) {i:Nat} (b:i<ps.length) (c:i<a.length):wrL W d (ps.take (i+1)) (a.take (i+1))=(wrL W d (ps.take i) (a.take i)).set (bu W (ps.getD i (0,0))) (a.getD i false):=by
 rw[List.take_succ_eq_append_getElem b,List.take_succ_eq_append_getElem c,wU _ _ _ _ _ _ oT];simp[wrL,List.getD,b,c]
theorem kb (W:Nat):∀(d:List Bool) (ps:List Pt) (a:List Bool) (i:Nat),(∀p∈ps,bu W p≠i)->(wrL W d ps a).getD i false=d.getD i false
 |d,[],a,i,_=>by rw[mz]
 |d,p::ps,[],i,_=>rfl
 |d,p::ps,b::a,i,h=>by
  show(wrL W (d.set (bu W p) b) ps a).getD i false=_;rw[kb W _ ps a i λq hq=>h q (List.mem_cons_of_mem _ hq)];have:=h p (List.mem_cons_self ..);simp[List.getD,List.getElem?_set_ne this]
theorem uP (W:Nat) (d:List Bool) (ps:List Pt) (b:List Bool) (a:List Pt) (h:∀q∈a,∀p∈ps,bu W p≠bu W q):cA W (wrL W d ps b) a=cA W d a:=
 List.map_congr_left λq hq=>kb W d ps b _ λp c=>h q hq p c
theorem ud (W:Nat):∀(d:List Bool) (ps:List Pt) (a:List Bool),ps.length=a.length->(∀p∈ps,bu W p<d.length)->(ps.Pairwise λp q=>bu W p≠bu W q)->cA W (wrL W d ps a) ps=a
 |d,[],[],_,_,_=>rfl
 |d,p::ps,b::a,h,c,f=>by
  have e:=List.pairwise_cons.1 f;show(wrL W (d.set (bu W p) b) ps a).getD (bu W p) false::cA W (wrL W (d.set (bu W p) b) ps a) ps=_;rw[kb W _ ps a _ λq hq=>(e.1 q hq).symm,ud W _ ps a (by simpa using h) (λq hq=>by rw[List.length_set];exact c q (List.mem_cons_of_mem _ hq)) e.2];have:=c p (List.mem_cons_self ..);simp[List.getD,this]
 |d,[],b::a,h,_,_=>by simp at h
 |d,p::ps,[],h,_,_=>by simp at h
theorem pn {W:Nat} {p q:Pt} (a:p.1<W) (hq:q.1<W) (h:bu W p=bu W q):p=q:=by
 unfold bu at h;have e1:(p.2* W+p.1)/W=p.2:=by rw[Nat.add_comm,Nat.add_mul_div_right _ _ oO,Nat.div_eq_of_lt a,Nat.zero_add]
 have e2:(q.2* W+q.1)/W=q.2:=by rw[Nat.add_comm,Nat.add_mul_div_right _ _ oO,Nat.div_eq_of_lt hq,Nat.zero_add]
 have e:p.2=q.2:=by rw[<-e1,<-e2,h]
 rw[e]at h;exact Prod.ext oO e
theorem iD {W H:Nat} {p:Pt} (b:p.1<W) (a:p.2<H):bu W p<W* H:=by
 unfold bu;have:(p.2+1)* W<=H* W:=Nat.mul_le_mul_right W a;rw[Nat.add_mul,Nat.one_mul]at this;rw[Nat.mul_comm W H];omega
theorem mM {W:Nat} {ps:List Pt} (h:ps.Nodup) (hb:∀p∈ps,p.1<W):ps.Pairwise λp q=>bu W p≠bu W q:=by
 refine List.Pairwise.imp_of_mem ?_ h;intro p q a hq b e;exact b (pn (hb p a) (hb q hq) e)
theorem AF {L i s j k:Nat} {c:Bool} (b:L<=32) (d:i<L) (a:j<rN L c i) (e:k<2):2* i+k<aC L c/\2* i+j<aC L c:=by
 unfold rN at a;unfold aC;cases c<;>simp at a⊢<;>omega
theorem jt (i:Nat) (w:World):Calls Tryz.prog 137 #[.int .i64 i] w λe w'=>e= .returned (.int .i64 (i:Int))/\w'=w:=by
 go_enter Tryz.func137,Tryz.ntmps137;go_wp2;go_ret;exact⟨rfl,rfl⟩
def HC (L:Nat) (W:World) (hb a:Nat):Prop:=aa W hb #[.int .i64 ((aC L false/2:Nat):Int)] 3/\aa W a #[.int .i64 ((aQ L false:Nat):Int)] 3
theorem ju (L i hb k:Nat) (w:World) (h:L<=32) (o:i<aC L false) (hc:HC L w hb k):Calls Tryz.prog 138 #[.int .i64 i,.pointer (some ⟨hb,0,none⟩),.pointer (some ⟨k,0,none⟩)] w λe w'=>e= .returned (.int .i64 ((aW L false i:Nat):Int))/\w'=w:=by
 have m:=Lib.hid (jM (c:=false) h);have r:=Lib.hid (gj (c:=false) h);have y:w.cell? ⟨hb,0,none⟩=some (.int .i64 ((aC L false/2:Nat):Int)):=hc.1.cell 0 _ rfl;have z:w.cell? ⟨k,0,none⟩=some (.int .i64 ((aQ L false:Nat):Int)):=hc.2.cell 0 _ rfl;have s:Hid (((aQ L false:Nat):Int)=((aj L false:Int)-1)/2):=by
  have:=gj (c:=false) h;show _=_;unfold aQ;omega
 clear hc;by_cases f:i<aC L false/2
 ·have a:=Lib.hid (Lj h f);rw[<-s.out]at a;have d:(aC L false:Int)/2=((aC L false/2:Nat):Int):=oO;rw[d]at a;clear d;have hB:aC L false/2<=100:=by have:=m.out;omega
  have t:aQ L false<=100:=by have:=r.out;unfold aQ;omega
  generalize aW L false i=p at*;generalize aC L false/2=b at*;generalize aQ L false=g at*;have x:(i:Int)<(b:Int):=oO;obtain⟨j,l⟩:∃j,j=b-1-i:=⟨_,rfl⟩;have e2:(b:Int)-1-(i:Int)=(j:Int):=oO;obtain⟨q,hq⟩:∃q,q=j/15:=⟨_,rfl⟩;have e3:(j:Int)/15=(q:Int):=oO;have n:Hid ((g:Int)-1-(j:Int)-(q:Int)=(p:Int)):=by show _=_;rw[a.out,e2,e3]
  have u:j<=200:=oO;have v:q<=200:=oO;clear l hq f o;go_enter Tryz.func138,Tryz.ntmps138;go_wp2;go_ret;exact⟨cS n.out,rfl⟩
 ·have a:=Lib.hid (K6 h f);rw[<-s.out]at a;have d:(aC L false:Int)/2=((aC L false/2:Nat):Int):=oO;rw[d]at a;clear d;have hB:aC L false/2<=100:=by have:=m.out;omega
  have t:aQ L false<=100:=by have:=r.out;unfold aQ;omega
  have A:i<=200:=by have:=m.out;omega
  generalize aW L false i=p at*;generalize aC L false/2=b at*;generalize aQ L false=g at*;have x:¬((i:Int)<(b:Int)):=oO;obtain⟨j,l⟩:∃j,j=i-b:=⟨_,rfl⟩;have e2:(i:Int)-(b:Int)=(j:Int):=oO;obtain⟨q,hq⟩:∃q,q=j/15:=⟨_,rfl⟩;have e3:(j:Int)/15=(q:Int):=oO;have n:Hid ((g:Int)+1+(j:Int)+(q:Int)=(p:Int)):=by show _=_;rw[a.out,e2,e3]
  have u:j<=200:=oO;have v:q<=200:=oO;clear l hq f o;go_enter Tryz.func138,Tryz.ntmps138;go_wp2;go_ret;exact⟨cS n.out,rfl⟩
def H9 (c:Bool) (hb a:Nat):Value:=if c=true then .func (Fn.func 137) #[] #[]else .func (Fn.func 138) #[] #[.pointer (some ⟨hb,0,none⟩),.pointer (some ⟨a,0,none⟩)]
structure mE (L:Nat) (c:Bool) (b lb hb a:Nat) (W:World):Prop where
 P:aa W b #[H9 c hb a] 77
 Q:aa W lb #[.int .i64 ((aC L c-1:Nat):Int)] 3
 H:c=false->HC L W hb a
def notPts:Obj->Bool
 |.cells _ a _=>!(a==47)&&!(a==40)
 |_=>true
def aK (w w':World):Prop:=∀(k:Nat) (a:Obj),w.heap[k]?=some a->notPts a=true->w'.heap[k]?=some a
theorem aK.refl (w:World):aK w w:=λ_ _ h _=>h
theorem aK.trans {a b c:World} (h:aK a b) (f:aK b c):aK a c:=λk d g e=>f k d (h k d g e) e
theorem aK.below {w W:World} (h:Below w.heap.size w W):aK w W:=λk b a _=>(h.block k (ar a)).trans a
theorem aa.iW {w w':World} {g:Nat} {b:Array Value} {a:TypeId} (h:aa w g b a) (c:aK w w') (d:notPts (.cells b a (0,0))=true):aa w' g b a:=c g _ h d
theorem mE.dF {L:Nat} {c:Bool} {b lb hb d:Nat} {w W:World} (h:mE L c b lb hb d w) (a:aK w W):mE L c b lb hb d W:=
 ⟨h.P.iW a rfl,h.Q.iW a rfl,λe=>⟨(h.H e).1.iW a rfl,(h.H e).2.iW a rfl⟩⟩
theorem EL (L:Nat) (c:Bool) (F lb G hb r i j k:Nat) (w:World) (g:L<=32) (K:i<L) (M:j<rN L c i) (N:k<2) (O:mE L c F lb hb r w) (P:aa w G #[.int .i64 i] 3):
 Calls Tryz.prog 94 #[.int .i64 j,.int .i64 k,.pointer (some ⟨F,0,none⟩),.pointer (some ⟨G,0,none⟩)] w λe w'=>e= .returned (.agg #[.int .i64 (((eH L c i 0 j k).1:Nat):Int),.int .i64 (((eH L c i 0 j k).2:Nat):Int)])/\Below w.heap.size w w':=by
 obtain⟨o,a1⟩:=AF (s:=0) g K M N;have a2:=(jM (c:=c) g).2;obtain⟨b,X⟩:∃b,b=2* i+k:=⟨_,rfl⟩;obtain⟨d,Y⟩:∃d,d=2* i+j:=⟨_,rfl⟩;obtain⟨m,B⟩:∃m,m=aC L c-1:=⟨_,rfl⟩;obtain⟨t,Z⟩:∃t,t=m-b:=⟨_,rfl⟩;obtain⟨u,ab⟩:∃u,u=m-d:=⟨_,rfl⟩;obtain⟨q,a3⟩:∃q,q=2* i:=⟨_,rfl⟩;obtain⟨z,a4⟩:∃z,z=m-q:=⟨_,rfl⟩;have a7:IntKind.i64.wrap (2* (i:Int))=(q:Int):=by rw[aF _ oO oO];omega
 have a8:IntKind.i64.wrap ((q:Int)+(k:Int))=(b:Int):=by rw[aF _ oO oO];omega
 have a9:IntKind.i64.wrap ((q:Int)+(j:Int))=(d:Int):=by rw[aF _ oO oO];omega
 have bb:IntKind.i64.wrap ((m:Int)-(q:Int))=(z:Int):=by rw[aF _ oO oO];omega
 have bd:IntKind.i64.wrap ((z:Int)-(k:Int))=(t:Int):=by rw[aF _ oO oO];omega
 have be:IntKind.i64.wrap ((z:Int)-(j:Int))=(u:Int):=by rw[aF _ oO oO];omega
 have ap:Hid (eH L c i 0 j k=(aW L c b,aW L c d)):=by
  show _=_;clear a7 a8 a9 bb bd be;subst Z ab B X Y;rfl
 have D:b<aC L c:=oO;have E:d<aC L c:=oO;have a5:t<aC L c:=oO;have a6:u<aC L c:=oO;have bv:i<=32:=oO;have bx:j<=142:=oO;have bz:m<=142:=oO;have bf:b<=142/\d<=142/\t<=142/\u<=142:=oO;obtain⟨bo,bq,bs,bt⟩:=bf;have H:=Lib.hid O;have av:=Lib.hid P;obtain⟨l,J⟩:∃l,l=w.alloc (.cells #[.int .i64 0,.int .i64 0] 47):=⟨_,rfl⟩;have p:Hid (Below w.heap.size w l):=by show Below _ _ _;rw[J];exact ax _ _
 have a0:Hid (∀W,af l W->aa W w.heap.size #[.int .i64 0,.int .i64 0] 47):=λW a=>by
  have:aa l w.heap.size #[.int .i64 0,.int .i64 0] 47:=by rw[J];exact aa.new _ _ _ _ oS
  exact this.below a
 cases c with
 |true=>
  have ac:Hid (∀W,af l W->Calls Tryz.prog 137 #[.int .i64 b] W λe w'=>e= .returned (.int .i64 ((aW L true b:Nat):Int))/\Below W.heap.size W w'):=λW a=>by rw[show aW L true b=b from rfl];exact(jt b W).mono (by rintro e f ⟨rfl,rfl⟩;exact⟨rfl,Below.refl _ _⟩)
  have ad:Hid (∀W,af l W->Calls Tryz.prog 137 #[.int .i64 d] W λe w'=>e= .returned (.int .i64 ((aW L true d:Nat):Int))/\Below W.heap.size W w'):=λW a=>by rw[show aW L true d=d from rfl];exact(jt d W).mono (by rintro e f ⟨rfl,rfl⟩;exact⟨rfl,Below.refl _ _⟩)
  have A:Hid (∀W,af l W->W.cell? ⟨F,0,none⟩=some (.func (Fn.func 137) #[] #[])/\W.cell? ⟨lb,0,none⟩=some (.int .i64 m)/\W.cell? ⟨G,0,none⟩=some (.int .i64 i)):=by
   show∀W,_;intro W a;have h:=H.out.dF (aK.below (ae p.out a));have al:=av.out.below (ae p.out a);refine⟨h.P.cell 0 _ rfl,?_,al.cell 0 _ rfl⟩;rw[B];exact h.Q.cell 0 _ rfl
  rw[ap.out];have bi:Hid (aW L true b<=200/\aW L true d<=200):=by
   have:=eM g D;have:=eM g E;have:=gj (c:=true) g
   show _/\_;omega
  generalize aW L true b=x at*;generalize aW L true d=y at*;clear O P K M N B X Y Z ab a3 a4 D E a5 a6 o a1 a2 g;subst J;go_enter Tryz.func94,Tryz.ntmps94;go_wp2;refine bY (S:=(λW=>af (w.alloc (.cells #[.int .i64 0,.int .i64 0] 47)) W)) 12 oK oK (ai (Below.refl _ _)) ?_;simp only[List.take_succ_cons,List.take_zero,List.drop_succ_cons,List.drop_zero]
  repeat refine kO A.out ?_
  refine kX (λW a=>ac.out W a) ?_
  repeat refine kO A.out ?_
  refine kX (λW a=>ad.out W a) ?_;refine dc ?_;intro f o;have C:=Lib.hid o;clear o;have n:=Lib.hid (a0.out _ C.out);have Q:f.cell? ⟨w.heap.size,0,none⟩=some (.int .i64 0):=n.out.cell 0 _ rfl;have T:f.cell? ⟨w.heap.size,1,none⟩=some (.int .i64 0):=n.out.cell 1 _ rfl;have U:f.frozen? ⟨w.heap.size,0,none⟩=false:=frozen_of_row _ _ _ _ _ n.out;have V:f.frozen? ⟨w.heap.size,1,none⟩=false:=frozen_of_row _ _ _ _ _ n.out;have am:Hid (Below w.heap.size w f):=ae p.out C.out;go_wp2;exact bodyPost_ret (v:= .agg #[.int .i64 (x:Int),.int .i64 (y:Int)]) (by simp[results,Tryz.results94,go_sem,Q,T,U,V]) rfl ⟨rfl,(am.out.setCell oS _).setCell oS _⟩
 |false=>
  have ac:Hid (∀W,af l W->Calls Tryz.prog 138 #[.int .i64 b,.pointer (some ⟨hb,0,none⟩),.pointer (some ⟨r,0,none⟩)] W λe w'=>e= .returned (.int .i64 ((aW L false b:Nat):Int))/\Below W.heap.size W w'):=λW a=>(ju L b hb r W g D ((H.out.dF (aK.below (ae p.out a))).H rfl)).mono (by rintro e f ⟨rfl,rfl⟩;exact⟨rfl,Below.refl _ _⟩);have ad:Hid (∀W,af l W->Calls Tryz.prog 138 #[.int .i64 d,.pointer (some ⟨hb,0,none⟩),.pointer (some ⟨r,0,none⟩)] W λe w'=>e= .returned (.int .i64 ((aW L false d:Nat):Int))/\Below W.heap.size W w'):=λW a=>(ju L d hb r W g E ((H.out.dF (aK.below (ae p.out a))).H rfl)).mono (by rintro e f ⟨rfl,rfl⟩;exact⟨rfl,Below.refl _ _⟩);have A:Hid (∀W,af l W->W.cell? ⟨F,0,none⟩=some (.func (Fn.func 138) #[] #[.pointer (some ⟨hb,0,none⟩),.pointer (some ⟨r,0,none⟩)])/\W.cell? ⟨lb,0,none⟩=some (.int .i64 m)/\W.cell? ⟨G,0,none⟩=some (.int .i64 i)):=by
   show∀W,_;intro W a;have h:=H.out.dF (aK.below (ae p.out a));have al:=av.out.below (ae p.out a);refine⟨h.P.cell 0 _ rfl,?_,al.cell 0 _ rfl⟩;rw[B];exact h.Q.cell 0 _ rfl
  rw[ap.out];have bi:Hid (aW L false b<=200/\aW L false d<=200):=by
   have:=eM g D;have:=eM g E;have:=gj (c:=false) g
   show _/\_;omega
  generalize aW L false b=x at*;generalize aW L false d=y at*;clear O P K M N B X Y Z ab a3 a4 D E a5 a6 o a1 a2 g;subst J;go_enter Tryz.func94,Tryz.ntmps94;go_wp2;refine bY (S:=(λW=>af (w.alloc (.cells #[.int .i64 0,.int .i64 0] 47)) W)) 12 oK oK (ai (Below.refl _ _)) ?_;simp only[List.take_succ_cons,List.take_zero,List.drop_succ_cons,List.drop_zero]
  repeat refine kO A.out ?_
  refine kX (λW a=>ac.out W a) ?_
  repeat refine kO A.out ?_
  refine kX (λW a=>ad.out W a) ?_;refine dc ?_;intro f o;have C:=Lib.hid o;clear o;have n:=Lib.hid (a0.out _ C.out);have Q:f.cell? ⟨w.heap.size,0,none⟩=some (.int .i64 0):=n.out.cell 0 _ rfl;have T:f.cell? ⟨w.heap.size,1,none⟩=some (.int .i64 0):=n.out.cell 1 _ rfl;have U:f.frozen? ⟨w.heap.size,0,none⟩=false:=frozen_of_row _ _ _ _ _ n.out;have V:f.frozen? ⟨w.heap.size,1,none⟩=false:=frozen_of_row _ _ _ _ _ n.out;have am:Hid (Below w.heap.size w f):=ae p.out C.out;go_wp2;exact bodyPost_ret (v:= .agg #[.int .i64 (x:Int),.int .i64 (y:Int)]) (by simp[results,Tryz.results94,go_sem,Q,T,U,V]) rfl ⟨rfl,(am.out.setCell oS _).setCell oS _⟩
theorem EA (L:Nat) (c:Bool) (F lb G hb r i j k:Nat) (w:World) (g:L<=32) (K:i<L) (M:j<rN L c i) (N:k<2) (O:mE L c F lb hb r w) (P:aa w G #[.int .i64 i] 3):
 Calls Tryz.prog 95 #[.int .i64 j,.int .i64 k,.pointer (some ⟨F,0,none⟩),.pointer (some ⟨G,0,none⟩),.pointer (some ⟨lb,0,none⟩)] w λe w'=>e= .returned (.agg #[.int .i64 (((eH L c i 1 j k).1:Nat):Int),.int .i64 (((eH L c i 1 j k).2:Nat):Int)])/\Below w.heap.size w w':=by
 obtain⟨o,a1⟩:=AF (s:=0) g K M N;have a2:=(jM (c:=c) g).2;obtain⟨t,X⟩:∃t,t=2* i+k:=⟨_,rfl⟩;obtain⟨b,Y⟩:∃b,b=2* i+j:=⟨_,rfl⟩;obtain⟨m,B⟩:∃m,m=aC L c-1:=⟨_,rfl⟩;obtain⟨d,Z⟩:∃d,d=m-t:=⟨_,rfl⟩;obtain⟨u,ab⟩:∃u,u=m-b:=⟨_,rfl⟩;obtain⟨q,a3⟩:∃q,q=2* i:=⟨_,rfl⟩;obtain⟨z,a4⟩:∃z,z=m-q:=⟨_,rfl⟩;have a7:IntKind.i64.wrap (2* (i:Int))=(q:Int):=by rw[aF _ oO oO];omega
 have a8:IntKind.i64.wrap ((q:Int)+(k:Int))=(t:Int):=by rw[aF _ oO oO];omega
 have a9:IntKind.i64.wrap ((q:Int)+(j:Int))=(b:Int):=by rw[aF _ oO oO];omega
 have bb:IntKind.i64.wrap ((m:Int)-(q:Int))=(z:Int):=by rw[aF _ oO oO];omega
 have bd:IntKind.i64.wrap ((z:Int)-(k:Int))=(d:Int):=by rw[aF _ oO oO];omega
 have be:IntKind.i64.wrap ((z:Int)-(j:Int))=(u:Int):=by rw[aF _ oO oO];omega
 have ap:Hid (eH L c i 1 j k=(aW L c b,aW L c d)):=by
  show _=_;clear a7 a8 a9 bb bd be;subst Z ab B X Y;rfl
 have a5:t<aC L c:=oO;have D:b<aC L c:=oO;have E:d<aC L c:=oO;have a6:u<aC L c:=oO;have bv:i<=32:=oO;have bx:j<=142:=oO;have bz:m<=142:=oO;have bf:t<=142/\b<=142/\d<=142/\u<=142:=oO;obtain⟨bo,bq,bs,bt⟩:=bf;have H:=Lib.hid O;have av:=Lib.hid P;obtain⟨l,J⟩:∃l,l=w.alloc (.cells #[.int .i64 0,.int .i64 0] 47):=⟨_,rfl⟩;have p:Hid (Below w.heap.size w l):=by show Below _ _ _;rw[J];exact ax _ _
 have a0:Hid (∀W,af l W->aa W w.heap.size #[.int .i64 0,.int .i64 0] 47):=λW a=>by
  have:aa l w.heap.size #[.int .i64 0,.int .i64 0] 47:=by rw[J];exact aa.new _ _ _ _ oS
  exact this.below a
 cases c with
 |true=>
  have ac:Hid (∀W,af l W->Calls Tryz.prog 137 #[.int .i64 b] W λe w'=>e= .returned (.int .i64 ((aW L true b:Nat):Int))/\Below W.heap.size W w'):=λW a=>by rw[show aW L true b=b from rfl];exact(jt b W).mono (by rintro e f ⟨rfl,rfl⟩;exact⟨rfl,Below.refl _ _⟩)
  have ad:Hid (∀W,af l W->Calls Tryz.prog 137 #[.int .i64 d] W λe w'=>e= .returned (.int .i64 ((aW L true d:Nat):Int))/\Below W.heap.size W w'):=λW a=>by rw[show aW L true d=d from rfl];exact(jt d W).mono (by rintro e f ⟨rfl,rfl⟩;exact⟨rfl,Below.refl _ _⟩)
  have A:Hid (∀W,af l W->W.cell? ⟨F,0,none⟩=some (.func (Fn.func 137) #[] #[])/\W.cell? ⟨lb,0,none⟩=some (.int .i64 m)/\W.cell? ⟨G,0,none⟩=some (.int .i64 i)):=by
   show∀W,_;intro W a;have h:=H.out.dF (aK.below (ae p.out a));have al:=av.out.below (ae p.out a);refine⟨h.P.cell 0 _ rfl,?_,al.cell 0 _ rfl⟩;rw[B];exact h.Q.cell 0 _ rfl
  rw[ap.out];have bi:Hid (aW L true b<=200/\aW L true d<=200):=by
   have:=eM g D;have:=eM g E;have:=gj (c:=true) g
   show _/\_;omega
  generalize aW L true b=x at*;generalize aW L true d=y at*;clear O P K M N B X Y Z ab a3 a4 a5 D E a6 o a1 a2 g;subst J;go_enter Tryz.func95,Tryz.ntmps95;go_wp2;refine bY (S:=(λW=>af (w.alloc (.cells #[.int .i64 0,.int .i64 0] 47)) W)) 14 oK oK (ai (Below.refl _ _)) ?_;simp only[List.take_succ_cons,List.take_zero,List.drop_succ_cons,List.drop_zero]
  repeat refine kO A.out ?_
  refine kX (λW a=>ac.out W a) ?_
  repeat refine kO A.out ?_
  refine kX (λW a=>ad.out W a) ?_;refine dc ?_;intro f o;have C:=Lib.hid o;clear o;have n:=Lib.hid (a0.out _ C.out);have Q:f.cell? ⟨w.heap.size,0,none⟩=some (.int .i64 0):=n.out.cell 0 _ rfl;have T:f.cell? ⟨w.heap.size,1,none⟩=some (.int .i64 0):=n.out.cell 1 _ rfl;have U:f.frozen? ⟨w.heap.size,0,none⟩=false:=frozen_of_row _ _ _ _ _ n.out;have V:f.frozen? ⟨w.heap.size,1,none⟩=false:=frozen_of_row _ _ _ _ _ n.out;have am:Hid (Below w.heap.size w f):=ae p.out C.out;go_wp2;exact bodyPost_ret (v:= .agg #[.int .i64 (x:Int),.int .i64 (y:Int)]) (by simp[results,Tryz.results95,go_sem,Q,T,U,V]) rfl ⟨rfl,(am.out.setCell oS _).setCell oS _⟩
 |false=>
  have ac:Hid (∀W,af l W->Calls Tryz.prog 138 #[.int .i64 b,.pointer (some ⟨hb,0,none⟩),.pointer (some ⟨r,0,none⟩)] W λe w'=>e= .returned (.int .i64 ((aW L false b:Nat):Int))/\Below W.heap.size W w'):=λW a=>(ju L b hb r W g D ((H.out.dF (aK.below (ae p.out a))).H rfl)).mono (by rintro e f ⟨rfl,rfl⟩;exact⟨rfl,Below.refl _ _⟩);have ad:Hid (∀W,af l W->Calls Tryz.prog 138 #[.int .i64 d,.pointer (some ⟨hb,0,none⟩),.pointer (some ⟨r,0,none⟩)] W λe w'=>e= .returned (.int .i64 ((aW L false d:Nat):Int))/\Below W.heap.size W w'):=λW a=>(ju L d hb r W g E ((H.out.dF (aK.below (ae p.out a))).H rfl)).mono (by rintro e f ⟨rfl,rfl⟩;exact⟨rfl,Below.refl _ _⟩);have A:Hid (∀W,af l W->W.cell? ⟨F,0,none⟩=some (.func (Fn.func 138) #[] #[.pointer (some ⟨hb,0,none⟩),.pointer (some ⟨r,0,none⟩)])/\W.cell? ⟨lb,0,none⟩=some (.int .i64 m)/\W.cell? ⟨G,0,none⟩=some (.int .i64 i)):=by
   show∀W,_;intro W a;have h:=H.out.dF (aK.below (ae p.out a));have al:=av.out.below (ae p.out a);refine⟨h.P.cell 0 _ rfl,?_,al.cell 0 _ rfl⟩;rw[B];exact h.Q.cell 0 _ rfl
  rw[ap.out];have bi:Hid (aW L false b<=200/\aW L false d<=200):=by
   have:=eM g D;have:=eM g E;have:=gj (c:=false) g
   show _/\_;omega
  generalize aW L false b=x at*;generalize aW L false d=y at*;clear O P K M N B X Y Z ab a3 a4 a5 D E a6 o a1 a2 g;subst J;go_enter Tryz.func95,Tryz.ntmps95;go_wp2;refine bY (S:=(λW=>af (w.alloc (.cells #[.int .i64 0,.int .i64 0] 47)) W)) 14 oK oK (ai (Below.refl _ _)) ?_;simp only[List.take_succ_cons,List.take_zero,List.drop_succ_cons,List.drop_zero]
  repeat refine kO A.out ?_
  refine kX (λW a=>ac.out W a) ?_
  repeat refine kO A.out ?_
  refine kX (λW a=>ad.out W a) ?_;refine dc ?_;intro f o;have C:=Lib.hid o;clear o;have n:=Lib.hid (a0.out _ C.out);have Q:f.cell? ⟨w.heap.size,0,none⟩=some (.int .i64 0):=n.out.cell 0 _ rfl;have T:f.cell? ⟨w.heap.size,1,none⟩=some (.int .i64 0):=n.out.cell 1 _ rfl;have U:f.frozen? ⟨w.heap.size,0,none⟩=false:=frozen_of_row _ _ _ _ _ n.out;have V:f.frozen? ⟨w.heap.size,1,none⟩=false:=frozen_of_row _ _ _ _ _ n.out;have am:Hid (Below w.heap.size w f):=ae p.out C.out;go_wp2;exact bodyPost_ret (v:= .agg #[.int .i64 (x:Int),.int .i64 (y:Int)]) (by simp[results,Tryz.results95,go_sem,Q,T,U,V]) rfl ⟨rfl,(am.out.setCell oS _).setCell oS _⟩
theorem Eo (L:Nat) (c:Bool) (F lb G hb r i j k:Nat) (w:World) (g:L<=32) (K:i<L) (M:j<rN L c i) (N:k<2) (O:mE L c F lb hb r w) (P:aa w G #[.int .i64 i] 3):
 Calls Tryz.prog 96 #[.int .i64 j,.int .i64 k,.pointer (some ⟨F,0,none⟩),.pointer (some ⟨lb,0,none⟩),.pointer (some ⟨G,0,none⟩)] w λe w'=>e= .returned (.agg #[.int .i64 (((eH L c i 2 j k).1:Nat):Int),.int .i64 (((eH L c i 2 j k).2:Nat):Int)])/\Below w.heap.size w w':=by
 obtain⟨o,a1⟩:=AF (s:=0) g K M N;have a2:=(jM (c:=c) g).2;obtain⟨t,X⟩:∃t,t=2* i+k:=⟨_,rfl⟩;obtain⟨u,Y⟩:∃u,u=2* i+j:=⟨_,rfl⟩;obtain⟨m,B⟩:∃m,m=aC L c-1:=⟨_,rfl⟩;obtain⟨b,Z⟩:∃b,b=m-t:=⟨_,rfl⟩;obtain⟨d,ab⟩:∃d,d=m-u:=⟨_,rfl⟩;obtain⟨q,a3⟩:∃q,q=2* i:=⟨_,rfl⟩;obtain⟨z,a4⟩:∃z,z=m-q:=⟨_,rfl⟩;have a7:IntKind.i64.wrap (2* (i:Int))=(q:Int):=by rw[aF _ oO oO];omega
 have a8:IntKind.i64.wrap ((q:Int)+(k:Int))=(t:Int):=by rw[aF _ oO oO];omega
 have a9:IntKind.i64.wrap ((q:Int)+(j:Int))=(u:Int):=by rw[aF _ oO oO];omega
 have bb:IntKind.i64.wrap ((m:Int)-(q:Int))=(z:Int):=by rw[aF _ oO oO];omega
 have bd:IntKind.i64.wrap ((z:Int)-(k:Int))=(b:Int):=by rw[aF _ oO oO];omega
 have be:IntKind.i64.wrap ((z:Int)-(j:Int))=(d:Int):=by rw[aF _ oO oO];omega
 have ap:Hid (eH L c i 2 j k=(aW L c b,aW L c d)):=by
  show _=_;clear a7 a8 a9 bb bd be;subst Z ab B X Y;rfl
 have a5:t<aC L c:=oO;have a6:u<aC L c:=oO;have D:b<aC L c:=oO;have E:d<aC L c:=oO;have bv:i<=32:=oO;have bx:j<=142:=oO;have bz:m<=142:=oO;have bf:t<=142/\u<=142/\b<=142/\d<=142:=oO;obtain⟨bo,bq,bs,bt⟩:=bf;have H:=Lib.hid O;have av:=Lib.hid P;obtain⟨l,J⟩:∃l,l=w.alloc (.cells #[.int .i64 0,.int .i64 0] 47):=⟨_,rfl⟩;have p:Hid (Below w.heap.size w l):=by show Below _ _ _;rw[J];exact ax _ _
 have a0:Hid (∀W,af l W->aa W w.heap.size #[.int .i64 0,.int .i64 0] 47):=λW a=>by
  have:aa l w.heap.size #[.int .i64 0,.int .i64 0] 47:=by rw[J];exact aa.new _ _ _ _ oS
  exact this.below a
 cases c with
 |true=>
  have ac:Hid (∀W,af l W->Calls Tryz.prog 137 #[.int .i64 b] W λe w'=>e= .returned (.int .i64 ((aW L true b:Nat):Int))/\Below W.heap.size W w'):=λW a=>by rw[show aW L true b=b from rfl];exact(jt b W).mono (by rintro e f ⟨rfl,rfl⟩;exact⟨rfl,Below.refl _ _⟩)
  have ad:Hid (∀W,af l W->Calls Tryz.prog 137 #[.int .i64 d] W λe w'=>e= .returned (.int .i64 ((aW L true d:Nat):Int))/\Below W.heap.size W w'):=λW a=>by rw[show aW L true d=d from rfl];exact(jt d W).mono (by rintro e f ⟨rfl,rfl⟩;exact⟨rfl,Below.refl _ _⟩)
  have A:Hid (∀W,af l W->W.cell? ⟨F,0,none⟩=some (.func (Fn.func 137) #[] #[])/\W.cell? ⟨lb,0,none⟩=some (.int .i64 m)/\W.cell? ⟨G,0,none⟩=some (.int .i64 i)):=by
   show∀W,_;intro W a;have h:=H.out.dF (aK.below (ae p.out a));have al:=av.out.below (ae p.out a);refine⟨h.P.cell 0 _ rfl,?_,al.cell 0 _ rfl⟩;rw[B];exact h.Q.cell 0 _ rfl
  rw[ap.out];have bi:Hid (aW L true b<=200/\aW L true d<=200):=by
   have:=eM g D;have:=eM g E;have:=gj (c:=true) g
   show _/\_;omega
  generalize aW L true b=x at*;generalize aW L true d=y at*;clear O P K M N B X Y Z ab a3 a4 a5 a6 D E o a1 a2 g;subst J;go_enter Tryz.func96,Tryz.ntmps96;go_wp2;refine bY (S:=(λW=>af (w.alloc (.cells #[.int .i64 0,.int .i64 0] 47)) W)) 16 oK oK (ai (Below.refl _ _)) ?_;simp only[List.take_succ_cons,List.take_zero,List.drop_succ_cons,List.drop_zero]
  repeat refine kO A.out ?_
  refine kX (λW a=>ac.out W a) ?_
  repeat refine kO A.out ?_
  refine kX (λW a=>ad.out W a) ?_;refine dc ?_;intro f o;have C:=Lib.hid o;clear o;have n:=Lib.hid (a0.out _ C.out);have Q:f.cell? ⟨w.heap.size,0,none⟩=some (.int .i64 0):=n.out.cell 0 _ rfl;have T:f.cell? ⟨w.heap.size,1,none⟩=some (.int .i64 0):=n.out.cell 1 _ rfl;have U:f.frozen? ⟨w.heap.size,0,none⟩=false:=frozen_of_row _ _ _ _ _ n.out;have V:f.frozen? ⟨w.heap.size,1,none⟩=false:=frozen_of_row _ _ _ _ _ n.out;have am:Hid (Below w.heap.size w f):=ae p.out C.out;go_wp2;exact bodyPost_ret (v:= .agg #[.int .i64 (x:Int),.int .i64 (y:Int)]) (by simp[results,Tryz.results96,go_sem,Q,T,U,V]) rfl ⟨rfl,(am.out.setCell oS _).setCell oS _⟩
 |false=>
  have ac:Hid (∀W,af l W->Calls Tryz.prog 138 #[.int .i64 b,.pointer (some ⟨hb,0,none⟩),.pointer (some ⟨r,0,none⟩)] W λe w'=>e= .returned (.int .i64 ((aW L false b:Nat):Int))/\Below W.heap.size W w'):=λW a=>(ju L b hb r W g D ((H.out.dF (aK.below (ae p.out a))).H rfl)).mono (by rintro e f ⟨rfl,rfl⟩;exact⟨rfl,Below.refl _ _⟩);have ad:Hid (∀W,af l W->Calls Tryz.prog 138 #[.int .i64 d,.pointer (some ⟨hb,0,none⟩),.pointer (some ⟨r,0,none⟩)] W λe w'=>e= .returned (.int .i64 ((aW L false d:Nat):Int))/\Below W.heap.size W w'):=λW a=>(ju L d hb r W g E ((H.out.dF (aK.below (ae p.out a))).H rfl)).mono (by rintro e f ⟨rfl,rfl⟩;exact⟨rfl,Below.refl _ _⟩);have A:Hid (∀W,af l W->W.cell? ⟨F,0,none⟩=some (.func (Fn.func 138) #[] #[.pointer (some ⟨hb,0,none⟩),.pointer (some ⟨r,0,none⟩)])/\W.cell? ⟨lb,0,none⟩=some (.int .i64 m)/\W.cell? ⟨G,0,none⟩=some (.int .i64 i)):=by
   show∀W,_;intro W a;have h:=H.out.dF (aK.below (ae p.out a));have al:=av.out.below (ae p.out a);refine⟨h.P.cell 0 _ rfl,?_,al.cell 0 _ rfl⟩;rw[B];exact h.Q.cell 0 _ rfl
  rw[ap.out];have bi:Hid (aW L false b<=200/\aW L false d<=200):=by
   have:=eM g D;have:=eM g E;have:=gj (c:=false) g
   show _/\_;omega
  generalize aW L false b=x at*;generalize aW L false d=y at*;clear O P K M N B X Y Z ab a3 a4 a5 a6 D E o a1 a2 g;subst J;go_enter Tryz.func96,Tryz.ntmps96;go_wp2;refine bY (S:=(λW=>af (w.alloc (.cells #[.int .i64 0,.int .i64 0] 47)) W)) 16 oK oK (ai (Below.refl _ _)) ?_;simp only[List.take_succ_cons,List.take_zero,List.drop_succ_cons,List.drop_zero]
  repeat refine kO A.out ?_
  refine kX (λW a=>ac.out W a) ?_
  repeat refine kO A.out ?_
  refine kX (λW a=>ad.out W a) ?_;refine dc ?_;intro f o;have C:=Lib.hid o;clear o;have n:=Lib.hid (a0.out _ C.out);have Q:f.cell? ⟨w.heap.size,0,none⟩=some (.int .i64 0):=n.out.cell 0 _ rfl;have T:f.cell? ⟨w.heap.size,1,none⟩=some (.int .i64 0):=n.out.cell 1 _ rfl;have U:f.frozen? ⟨w.heap.size,0,none⟩=false:=frozen_of_row _ _ _ _ _ n.out;have V:f.frozen? ⟨w.heap.size,1,none⟩=false:=frozen_of_row _ _ _ _ _ n.out;have am:Hid (Below w.heap.size w f):=ae p.out C.out;go_wp2;exact bodyPost_ret (v:= .agg #[.int .i64 (x:Int),.int .i64 (y:Int)]) (by simp[results,Tryz.results96,go_sem,Q,T,U,V]) rfl ⟨rfl,(am.out.setCell oS _).setCell oS _⟩
theorem DZ (L:Nat) (c:Bool) (F lb G hb r i j k:Nat) (w:World) (g:L<=32) (K:i<L) (M:j<rN L c i) (N:k<2) (O:mE L c F lb hb r w) (P:aa w G #[.int .i64 i] 3):
 Calls Tryz.prog 97 #[.int .i64 j,.int .i64 k,.pointer (some ⟨F,0,none⟩),.pointer (some ⟨lb,0,none⟩),.pointer (some ⟨G,0,none⟩)] w λe w'=>e= .returned (.agg #[.int .i64 (((eH L c i 3 j k).1:Nat):Int),.int .i64 (((eH L c i 3 j k).2:Nat):Int)])/\Below w.heap.size w w':=by
 obtain⟨o,a1⟩:=AF (s:=0) g K M N;have a2:=(jM (c:=c) g).2;obtain⟨b,X⟩:∃b,b=2* i+k:=⟨_,rfl⟩;obtain⟨t,Y⟩:∃t,t=2* i+j:=⟨_,rfl⟩;obtain⟨m,B⟩:∃m,m=aC L c-1:=⟨_,rfl⟩;obtain⟨u,Z⟩:∃u,u=m-b:=⟨_,rfl⟩;obtain⟨d,ab⟩:∃d,d=m-t:=⟨_,rfl⟩;obtain⟨q,a3⟩:∃q,q=2* i:=⟨_,rfl⟩;obtain⟨z,a4⟩:∃z,z=m-q:=⟨_,rfl⟩;have a7:IntKind.i64.wrap (2* (i:Int))=(q:Int):=by rw[aF _ oO oO];omega
 have a8:IntKind.i64.wrap ((q:Int)+(k:Int))=(b:Int):=by rw[aF _ oO oO];omega
 have a9:IntKind.i64.wrap ((q:Int)+(j:Int))=(t:Int):=by rw[aF _ oO oO];omega
 have bb:IntKind.i64.wrap ((m:Int)-(q:Int))=(z:Int):=by rw[aF _ oO oO];omega
 have bd:IntKind.i64.wrap ((z:Int)-(k:Int))=(u:Int):=by rw[aF _ oO oO];omega
 have be:IntKind.i64.wrap ((z:Int)-(j:Int))=(d:Int):=by rw[aF _ oO oO];omega
 have ap:Hid (eH L c i 3 j k=(aW L c d,aW L c b)):=by
  show _=_;clear a7 a8 a9 bb bd be;subst Z ab B X Y;rfl
 have D:b<aC L c:=oO;have a5:t<aC L c:=oO;have a6:u<aC L c:=oO;have E:d<aC L c:=oO;have bv:i<=32:=oO;have bx:j<=142:=oO;have bz:m<=142:=oO;have bf:b<=142/\t<=142/\u<=142/\d<=142:=oO;obtain⟨bo,bq,bs,bt⟩:=bf;have H:=Lib.hid O;have av:=Lib.hid P;obtain⟨l,J⟩:∃l,l=w.alloc (.cells #[.int .i64 0,.int .i64 0] 47):=⟨_,rfl⟩;have p:Hid (Below w.heap.size w l):=by show Below _ _ _;rw[J];exact ax _ _
 have a0:Hid (∀W,af l W->aa W w.heap.size #[.int .i64 0,.int .i64 0] 47):=λW a=>by
  have:aa l w.heap.size #[.int .i64 0,.int .i64 0] 47:=by rw[J];exact aa.new _ _ _ _ oS
  exact this.below a
 cases c with
 |true=>
  have ac:Hid (∀W,af l W->Calls Tryz.prog 137 #[.int .i64 d] W λe w'=>e= .returned (.int .i64 ((aW L true d:Nat):Int))/\Below W.heap.size W w'):=λW a=>by rw[show aW L true d=d from rfl];exact(jt d W).mono (by rintro e f ⟨rfl,rfl⟩;exact⟨rfl,Below.refl _ _⟩)
  have ad:Hid (∀W,af l W->Calls Tryz.prog 137 #[.int .i64 b] W λe w'=>e= .returned (.int .i64 ((aW L true b:Nat):Int))/\Below W.heap.size W w'):=λW a=>by rw[show aW L true b=b from rfl];exact(jt b W).mono (by rintro e f ⟨rfl,rfl⟩;exact⟨rfl,Below.refl _ _⟩)
  have A:Hid (∀W,af l W->W.cell? ⟨F,0,none⟩=some (.func (Fn.func 137) #[] #[])/\W.cell? ⟨lb,0,none⟩=some (.int .i64 m)/\W.cell? ⟨G,0,none⟩=some (.int .i64 i)):=by
   show∀W,_;intro W a;have h:=H.out.dF (aK.below (ae p.out a));have al:=av.out.below (ae p.out a);refine⟨h.P.cell 0 _ rfl,?_,al.cell 0 _ rfl⟩;rw[B];exact h.Q.cell 0 _ rfl
  rw[ap.out];have bi:Hid (aW L true d<=200/\aW L true b<=200):=by
   have:=eM g E;have:=eM g D;have:=gj (c:=true) g
   show _/\_;omega
  generalize aW L true d=x at*;generalize aW L true b=y at*;clear O P K M N B X Y Z ab a3 a4 D a5 a6 E o a1 a2 g;subst J;go_enter Tryz.func97,Tryz.ntmps97;go_wp2;refine bY (S:=(λW=>af (w.alloc (.cells #[.int .i64 0,.int .i64 0] 47)) W)) 14 oK oK (ai (Below.refl _ _)) ?_;simp only[List.take_succ_cons,List.take_zero,List.drop_succ_cons,List.drop_zero]
  repeat refine kO A.out ?_
  refine kX (λW a=>ac.out W a) ?_
  repeat refine kO A.out ?_
  refine kX (λW a=>ad.out W a) ?_;refine dc ?_;intro f o;have C:=Lib.hid o;clear o;have n:=Lib.hid (a0.out _ C.out);have Q:f.cell? ⟨w.heap.size,0,none⟩=some (.int .i64 0):=n.out.cell 0 _ rfl;have T:f.cell? ⟨w.heap.size,1,none⟩=some (.int .i64 0):=n.out.cell 1 _ rfl;have U:f.frozen? ⟨w.heap.size,0,none⟩=false:=frozen_of_row _ _ _ _ _ n.out;have V:f.frozen? ⟨w.heap.size,1,none⟩=false:=frozen_of_row _ _ _ _ _ n.out;have am:Hid (Below w.heap.size w f):=ae p.out C.out;go_wp2;exact bodyPost_ret (v:= .agg #[.int .i64 (x:Int),.int .i64 (y:Int)]) (by simp[results,Tryz.results97,go_sem,Q,T,U,V]) rfl ⟨rfl,(am.out.setCell oS _).setCell oS _⟩
 |false=>
  have ac:Hid (∀W,af l W->Calls Tryz.prog 138 #[.int .i64 d,.pointer (some ⟨hb,0,none⟩),.pointer (some ⟨r,0,none⟩)] W λe w'=>e= .returned (.int .i64 ((aW L false d:Nat):Int))/\Below W.heap.size W w'):=λW a=>(ju L d hb r W g E ((H.out.dF (aK.below (ae p.out a))).H rfl)).mono (by rintro e f ⟨rfl,rfl⟩;exact⟨rfl,Below.refl _ _⟩);have ad:Hid (∀W,af l W->Calls Tryz.prog 138 #[.int .i64 b,.pointer (some ⟨hb,0,none⟩),.pointer (some ⟨r,0,none⟩)] W λe w'=>e= .returned (.int .i64 ((aW L false b:Nat):Int))/\Below W.heap.size W w'):=λW a=>(ju L b hb r W g D ((H.out.dF (aK.below (ae p.out a))).H rfl)).mono (by rintro e f ⟨rfl,rfl⟩;exact⟨rfl,Below.refl _ _⟩);have A:Hid (∀W,af l W->W.cell? ⟨F,0,none⟩=some (.func (Fn.func 138) #[] #[.pointer (some ⟨hb,0,none⟩),.pointer (some ⟨r,0,none⟩)])/\W.cell? ⟨lb,0,none⟩=some (.int .i64 m)/\W.cell? ⟨G,0,none⟩=some (.int .i64 i)):=by
   show∀W,_;intro W a;have h:=H.out.dF (aK.below (ae p.out a));have al:=av.out.below (ae p.out a);refine⟨h.P.cell 0 _ rfl,?_,al.cell 0 _ rfl⟩;rw[B];exact h.Q.cell 0 _ rfl
  rw[ap.out];have bi:Hid (aW L false d<=200/\aW L false b<=200):=by
   have:=eM g E;have:=eM g D;have:=gj (c:=false) g
   show _/\_;omega
  generalize aW L false d=x at*;generalize aW L false b=y at*;clear O P K M N B X Y Z ab a3 a4 D a5 a6 E o a1 a2 g;subst J;go_enter Tryz.func97,Tryz.ntmps97;go_wp2;refine bY (S:=(λW=>af (w.alloc (.cells #[.int .i64 0,.int .i64 0] 47)) W)) 14 oK oK (ai (Below.refl _ _)) ?_;simp only[List.take_succ_cons,List.take_zero,List.drop_succ_cons,List.drop_zero]
  repeat refine kO A.out ?_
  refine kX (λW a=>ac.out W a) ?_
  repeat refine kO A.out ?_
  refine kX (λW a=>ad.out W a) ?_;refine dc ?_;intro f o;have C:=Lib.hid o;clear o;have n:=Lib.hid (a0.out _ C.out);have Q:f.cell? ⟨w.heap.size,0,none⟩=some (.int .i64 0):=n.out.cell 0 _ rfl;have T:f.cell? ⟨w.heap.size,1,none⟩=some (.int .i64 0):=n.out.cell 1 _ rfl;have U:f.frozen? ⟨w.heap.size,0,none⟩=false:=frozen_of_row _ _ _ _ _ n.out;have V:f.frozen? ⟨w.heap.size,1,none⟩=false:=frozen_of_row _ _ _ _ _ n.out;have am:Hid (Below w.heap.size w f):=ae p.out C.out;go_wp2;exact bodyPost_ret (v:= .agg #[.int .i64 (x:Int),.int .i64 (y:Int)]) (by simp[results,Tryz.results97,go_sem,Q,T,U,V]) rfl ⟨rfl,(am.out.setCell oS _).setCell oS _⟩
structure BP (n:Nat) (w wr:World) (a:Nat) (ps:List Pt):Prop where
 B:Below n w wr
 X:∃A c,aa wr a #[.slice A ps.length c] 40/\wr.ownsRow n 47 2 (.slice A ps.length c) ps.length (ps.flatMap eS)
 n1:n<=a
 n2:n<=wr.heap.size
theorem BP.below {n:Nat} {w wr W:World} {b:Nat} {ps:List Pt} (h:BP n w wr b ps) (a:Below wr.heap.size wr W):BP n w W b ps:=by
 obtain⟨A,c,d,e⟩:=h.X;exact⟨h.B.trans (a.mono h.n2),⟨A,c,d.below a,au e a⟩,h.n1,Nat.le_trans h.n2 a.size⟩
theorem qM {n:Nat} {w:World} {a q:Nat} {u:Value} {v:Value} {k:Nat} {xs:List Value} (b:aa w a #[u] 40) (c:w.ownsRow n 47 2 v k xs) (hq:v.ownBlock=some q):q≠a:=by
 rcases c.2 with⟨rfl,_⟩|⟨g,cap,d,rfl,_,hg,_⟩
 ·cases hq
 ·simp only[Value.ownBlock,Option.some.injEq]at hq;subst hq;intro e;subst e;unfold aa at b;rw[b]at hg;injection hg with hg;injection hg with _ e _;exact absurd e oD
theorem aK.grown {n:Nat} {w W:World} {v:Value} {k:Nat} {xs:List Value} (h:w.ownsRow n 47 2 v k xs) (hg:w.grownBy W v.ownBlock):aK w W:=by
 intro q c a hn;refine(hg.block q (ar a) ?_).trans a;intro e;rcases h.2 with⟨rfl,_⟩|⟨g,cap,d,rfl,_,b,_⟩
 ·cases e
 ·simp only[Value.ownBlock,Option.some.injEq]at e;subst e;rw[b]at a;injection a with a;subst a;exact absurd hn (by simp[notPts])
theorem aK.eT {w:World} {g i:Nat} {b:Array Value} (h:aa w g b 40) (u:Value):aK w (w.setCell ⟨g,i,none⟩ u):=by
 intro q c a hn;refine(Below.heap_setCell _ _ _ _ ?_).trans a;intro e;subst e;unfold aa at h;rw[h]at a;injection a with a;subst a;exact absurd hn (by simp[notPts])
theorem JG {n:Nat} {w:World} {b:Nat} {u:Value} {v:Value} {k:Nat} {xs:List Value} (c:aa w b #[u] 40) (a:w.ownsRow n 47 2 v k xs) (y:Value):(w.setCell ⟨b,0,none⟩ y).ownsRow n 47 2 v k xs:=by
 refine⟨a.1,?_⟩;rcases a.2 with d|⟨g,cap,e,e1,e2,e3,e4⟩
 ·exact .inl d
 ·refine .inr ⟨g,cap,e,e1,e2,(Below.heap_setCell _ _ _ _ ?_).trans e3,e4⟩;exact qM c a (by rw[e1];rfl)
theorem nr {a:Act} {b:Oper} {W:World} {x q:Operand} (d:b.op= .store 40 q x) (p:Addr) (A:Option Addr) (n c:Nat) (hq:a.eval q= .pointer (some p)) (e:a.eval x= .slice A n c) {u:Value} (hc:W.cell? p=some u) (f:W.frozen? p=false):
 (execOp a.eval b).run Tryz.prog W= .ok .skip (W.setCell p (.slice A n c)):=by
 unfold execOp;simp only[d,hq,e,Instr.storeAt,Instr.sureAddr,Sem.run_bind,Sem.run_pure,Result.andThen_ok];go_simp
theorem fY {i:Array Oper} {S:World->Prop} {K:Act->World->Prop} {r:List (Bool×Nat×Oper)} {k:Nat} {d:Oper} {a:Act} {W:World} {base:Nat} {A:Option Addr} {g:Addr} {n c m l:Nat} {xs ys:List Pt} (q:W.ownsRow base 47 2 (.slice A n c) n (xs.flatMap eS)) (hb:base<=W.heap.size)
 (B:Region.wanted d (yielded i a.tmps)=true) (s y:Operand) (t:d.op= .call {callee:= .builtin .append,args:=#[s,y],argTypes:=#[40,40]}) (hs:a.eval s= .slice A n c) (v:a.eval y= .slice (some g) m l) (w:m=ys.length)
 (x:∀j u,(ys.flatMap eS)[j]?=some u->W.cell? (g.add j)=some u) (hl:n+m<=1000000)
 (z:∀e f b,b.ownsRow base 47 2 (.slice e (n+m) f) (n+m) ((xs++ys).flatMap eS)->W.grownBy b (Value.slice A n c).ownBlock->S b/\bn Tryz.prog i S K r (a.put d.dst (.slice e (n+m) f)) b):
 bn Tryz.prog i S K ((true,k,d)::r) a W:=by
 obtain⟨D,b,C,p,hg,-⟩:=wW d.type q hb g m l ys w x hl;obtain⟨e,f,rfl⟩:=cU p;have o:=z e f b p hg;refine fD B ?_ o.1 o.2;unfold execOp;simp only[t,resolve,invoke,builtin,Sem.run_bind,Sem.run_pure,Result.andThen_ok,List.map_toArray,List.map_cons,List.map_nil,hs,v,C]
theorem jm (n:Nat) (w0 w:World) (d:Nat) (ps:List Pt) (J:Nat) (T:Array Value) (L i s r:Nat) (c:Bool) (h:BP n w0 w d ps) (hl:ps.length<=60000) (c2:r<=140) (c5:∀(args:Array Value) (W:World),(callFunc J args).run Tryz.prog W= .ok (.enter J args) W)
 (bz:∀W,aK w W->∀j,j<r->Calls Tryz.prog J (#[.int .i64 j,.int .i64 0]++T) W λe w'=>e= .returned (.agg #[.int .i64 (((eH L c i s j 0).1:Nat):Int),.int .i64 (((eH L c i s j 0).2:Nat):Int)])/\Below W.heap.size W w')
 (b1:∀W,aK w W->∀j,j<r->Calls Tryz.prog J (#[.int .i64 j,.int .i64 1]++T) W λe w'=>e= .returned (.agg #[.int .i64 (((eH L c i s j 1).1:Nat):Int),.int .i64 (((eH L c i s j 1).2:Nat):Int)])/\Below W.heap.size W w'):
 Calls Tryz.prog 93 #[.int .i64 r,.func (Fn.func J) #[] T,.pointer (some ⟨d,0,none⟩)] w λe w'=>e= .returned (.tuple #[])/\BP n w0 w' d (ps++jL L c i s r)/\aK w w':=by
 have bf:Hid (BP n w0 w d (ps++jL L c i s 0)/\aK w w):=by
  show _/\_;rw[show jL L c i s 0=[]from rfl,List.append_nil];exact⟨h,aK.refl _⟩
 have b7:=Lib.hid bz;have b8:=Lib.hid b1;clear h bz b1;go_enter Tryz.func93,Tryz.ntmps93;go_wp2;go_loopw [7] (λav wr=>∃j:Nat,j<=r/\av= .int .i64 j/\Hid (BP n w0 wr d (ps++jL L c i s j)/\aK w wr)) (λav _=>r-(intOf av).toNat)
 case atStart=>exact⟨0,Nat.zero_le _,rfl,bf⟩
 case round=>
  clear bf;obtain⟨j,c3,rfl,E⟩:=hrel;by_cases bs:j<r
  ·obtain⟨A,D,bi,bo⟩:=E.out.1.X;have o:=Lib.hid bi;have p:=Lib.hid bo;have m:Hid (n<=d/\n<=wr.heap.size):=⟨E.out.1.n1,E.out.1.n2⟩;have V:=Lib.hid E.out.1.B;have a0:=Lib.hid E.out.2;have b9:Hid (ps++jL L c i s (j+1)=(ps++jL L c i s j)++[eH L c i s j 0,eH L c i s j 1]):=by
    show _=_;rw[D6,List.append_assoc];rfl
   have X:Hid ((ps++jL L c i s j).length<=70000):=by
    show _<=_;rw[List.length_append,tu];omega
   have bt:Hid (∀W,aK wr W->Calls Tryz.prog J (#[.int .i64 j,.int .i64 0]++T) W λe w'=>e= .returned (.agg #[.int .i64 (((eH L c i s j 0).1:Nat):Int),.int .i64 (((eH L c i s j 0).2:Nat):Int)])/\Below W.heap.size W w'):=λW P=>b7.out W (a0.out.trans P) j bs;have a3:Hid (∀W,aK wr W->Calls Tryz.prog J (#[.int .i64 j,.int .i64 1]++T) W λe w'=>e= .returned (.agg #[.int .i64 (((eH L c i s j 1).1:Nat):Int),.int .i64 (((eH L c i s j 1).2:Nat):Int)])/\Below W.heap.size W w'):=λW P=>b8.out W (a0.out.trans P) j bs;have c4:Hid (∀W,af wr W->W.cell? ⟨d,0,none⟩=some (.slice A (ps++jL L c i s j).length D)):=λW P=>(o.out.below P).cell 0 _ rfl;generalize eH L c i s j 0=f at*;generalize eH L c i s j 1=p1 at*;generalize ca:ps++jL L c i s j=a1 at*;generalize bv:a1.length=nl at*;have cb:=Lib.hid bv;clear ca bv bi bo E;go_wp2;have Q:Hid (af wr wr.drew):=ai (Below.refl _ _);have ac:Hid (∀g l a,Below n w0 a->a.ownsRow n 47 2 (.slice g (nl+2) l) (nl+2) ((a1++[f,p1]).flatMap eS)->aa a d #[.slice A nl D] 40->aK wr a->n<=a.heap.size->Hid (BP n w0 (a.setCell ⟨d,0,none⟩ (.slice g (nl+2) l)) d (ps++jL L c i s (j+1))/\aK w (a.setCell ⟨d,0,none⟩ (.slice g (nl+2) l)))):=by
    show∀_ _ _,_;intro g l a ce ch a4 ci ck;have bq:(a1++[f,p1]).length=nl+2:=by rw[List.length_append,cb.out];rfl
    show BP _ _ _ _ _/\_;rw[b9.out];refine⟨⟨ce.setCell (by exact m.out.1) _,⟨g,l,?_,?_⟩,m.out.1,by simpa using ck⟩,(a0.out.trans ci).trans (aK.eT a4 _)⟩
    ·rw[bq];exact a4.eT _
    ·rw[bq];exact JG a4 ch _
   refine uY (S:=λ_=>True) (.br [(false,1),(false,2),(false,4),(false,5)] [0,3] (λk=>if k=0 then .last [(true,3),(true,6),(true,7),(true,8),(true,9)]else .br [] [0,6] (λk=>if k=0 then .last [(true,6),(true,7),(true,8),(true,9)]else .br [] [0,7] (λk=>if k=0 then .last [(true,7),(true,8),(true,9)]else .last [(true,0),(true,8),(true,9)])))) oK oK trivial ?_;simp only[reduceIte,Nat.reduceEqDiff,wpTree,attachW,List.getElem?_cons_zero,List.getElem?_cons_succ];refine zU ?_;refine zU ?_;refine zU ?_;refine zU ?_;refine ag ?_;intro k F;simp only[List.mem_cons,List.not_mem_nil,or_false]at F;rcases F with rfl|rfl
   ·simp only[reduceIte,Nat.reduceEqDiff,wpTree,attachW,List.getElem?_cons_zero,List.getElem?_cons_succ];refine' zQ (v:= .slice A nl D) (w':=wr.drew) rfl (by have a2:=(o.out.below Q.out).cell 0 _ rfl;go_simp) trivial ?_;refine ag ?_
    (try simp only[reduceIte,Nat.reduceEqDiff,wpTree,attachW,List.getElem?_cons_zero,List.getElem?_cons_succ])
    refine zZ ?_;refine(bt.out _ (aK.below Q.out)).mono ?_;rintro e co ⟨rfl,hb⟩;have b2:Hid (af wr co):=ae Q.out hb;clear hb;refine⟨_,rfl,trivial,jO ?_⟩;refine zZ ?_;refine(a3.out _ (aK.below b2.out)).mono ?_;rintro e Y ⟨rfl,hb⟩;have cp:Hid (af wr Y):=ae b2.out hb;clear hb;refine⟨_,rfl,trivial,jO ?_⟩;obtain⟨a5,ad⟩:∃H,H=Y.alloc (.cells #[.int .i64 (f.1:Int),.int .i64 (f.2:Int),.int .i64 (p1.1:Int),.int .i64 (p1.2:Int)] 47):=⟨_,rfl⟩;have y:Hid (af wr a5):=by show Below _ _ _;rw[ad];exact ah cp.out _
    obtain⟨b3,a9⟩:∃b,b=Y.heap.size:=⟨_,rfl⟩;have cq:Hid (∀j u,(([f,p1]:List Pt).flatMap eS)[j]?=some u->a5.cell? ((⟨b3,0,none⟩:Addr).add j)=some u):=by show∀_ _,_;rw[ad,a9];exact gh Y [f,p1] _
    refine' zQ (v:= .slice (some ⟨b3,0,none⟩) 2 2) (w':=a5) rfl (by rw[ad,a9];go_simp) trivial ?_;clear ad a9;refine' fY (ys:=[f,p1]) (au p.out y.out) (Nat.le_trans m.out.2 y.out.size) rfl _ _ rfl rfl rfl rfl cq.out (by have:=X.out;omega) ?_;intro g l a C hg;have K:=Lib.hid C;have t:Hid (aa a d #[.slice A nl D] 40):=(hg.block d (ar (o.out.below y.out)) (λe=>qM (o.out.below y.out) (au p.out y.out) e.symm rfl)).trans (o.out.below y.out);have M:Hid (aK wr a):=(aK.below y.out).trans (aK.grown (au p.out y.out) hg);have N:Hid (Below n w0 a):=(V.out.trans (y.out.mono m.out.2)).grown hg (Nat.le_trans m.out.2 y.out.size) (λq hq=>((au p.out y.out).lt q hq).1);have O:Hid (n<=a.heap.size):=Nat.le_trans m.out.2 (Nat.le_trans y.out.size hg.size);clear C hg;refine⟨trivial,?_⟩;simp only[yQ,yU,yX,yY];refine' aX (w':=a.setCell ⟨d,0,none⟩ (.slice g (nl+2) l)) rfl (nr rfl ⟨d,0,none⟩ g (nl+2) l rfl rfl (t.out.cell 0 _ rfl) (frozen_of_row _ _ _ _ _ t.out)) trivial ?_;simp only[yQ,yU,yX,yY];refine ag ?_;go_wp2;exact⟨⟨j+1,by omega,by go_num,ac.out g l a N.out K.out t.out M.out O.out⟩,by simp[intOf];omega⟩
   ·simp only[reduceIte,Nat.reduceEqDiff,wpTree,attachW,List.getElem?_cons_zero,List.getElem?_cons_succ];refine zZ ?_;refine(bt.out _ (aK.below Q.out)).mono ?_;rintro e bx ⟨rfl,hb⟩;have U:Hid (af wr bx):=ae Q.out hb;clear hb;refine⟨_,rfl,trivial,jO ?_⟩;refine ag ?_
    (try simp only[reduceIte,Nat.reduceEqDiff,wpTree,attachW,List.getElem?_cons_zero,List.getElem?_cons_succ])
    refine ag ?_;intro k F;simp only[List.mem_cons,List.not_mem_nil,or_false]at F;rcases F with rfl|rfl
    ·simp only[reduceIte,Nat.reduceEqDiff,wpTree,attachW,List.getElem?_cons_zero,List.getElem?_cons_succ];refine' zQ (v:= .slice A nl D) (w':=bx) rfl (by have a2:=(o.out.below U.out).cell 0 _ rfl;go_simp) trivial ?_;refine ag ?_
     (try simp only[reduceIte,Nat.reduceEqDiff,wpTree,attachW,List.getElem?_cons_zero,List.getElem?_cons_succ])
     refine zZ ?_;refine(a3.out _ (aK.below U.out)).mono ?_;rintro e Z ⟨rfl,hb⟩;have cs:Hid (af wr Z):=ae U.out hb;clear hb;refine⟨_,rfl,trivial,jO ?_⟩;obtain⟨a6,al⟩:∃H,H=Z.alloc (.cells #[.int .i64 (f.1:Int),.int .i64 (f.2:Int),.int .i64 (p1.1:Int),.int .i64 (p1.2:Int)] 47):=⟨_,rfl⟩;have z:Hid (af wr a6):=by show Below _ _ _;rw[al];exact ah cs.out _
     obtain⟨b4,bb⟩:∃b,b=Z.heap.size:=⟨_,rfl⟩;have cv:Hid (∀j u,(([f,p1]:List Pt).flatMap eS)[j]?=some u->a6.cell? ((⟨b4,0,none⟩:Addr).add j)=some u):=by show∀_ _,_;rw[al,bb];exact gh Z [f,p1] _
     refine' zQ (v:= .slice (some ⟨b4,0,none⟩) 2 2) (w':=a6) rfl (by rw[al,bb];go_simp) trivial ?_;clear al bb;refine' fY (ys:=[f,p1]) (au p.out z.out) (Nat.le_trans m.out.2 z.out.size) rfl _ _ rfl rfl rfl rfl cv.out (by have:=X.out;omega) ?_;intro g l a C hg;have K:=Lib.hid C;have t:Hid (aa a d #[.slice A nl D] 40):=(hg.block d (ar (o.out.below z.out)) (λe=>qM (o.out.below z.out) (au p.out z.out) e.symm rfl)).trans (o.out.below z.out);have M:Hid (aK wr a):=(aK.below z.out).trans (aK.grown (au p.out z.out) hg);have N:Hid (Below n w0 a):=(V.out.trans (z.out.mono m.out.2)).grown hg (Nat.le_trans m.out.2 z.out.size) (λq hq=>((au p.out z.out).lt q hq).1);have O:Hid (n<=a.heap.size):=Nat.le_trans m.out.2 (Nat.le_trans z.out.size hg.size);clear C hg;refine⟨trivial,?_⟩;simp only[yQ,yU,yX,yY];refine' aX (w':=a.setCell ⟨d,0,none⟩ (.slice g (nl+2) l)) rfl (nr rfl ⟨d,0,none⟩ g (nl+2) l rfl rfl (t.out.cell 0 _ rfl) (frozen_of_row _ _ _ _ _ t.out)) trivial ?_;simp only[yQ,yU,yX,yY];refine ag ?_;go_wp2;exact⟨⟨j+1,by omega,by go_num,ac.out g l a N.out K.out t.out M.out O.out⟩,by simp[intOf];omega⟩
    ·simp only[reduceIte,Nat.reduceEqDiff,wpTree,attachW,List.getElem?_cons_zero,List.getElem?_cons_succ];refine zZ ?_;refine(a3.out _ (aK.below U.out)).mono ?_;rintro e G ⟨rfl,hb⟩;have a8:Hid (af wr G):=ae U.out hb;clear hb;refine⟨_,rfl,trivial,jO ?_⟩;refine ag ?_
     (try simp only[reduceIte,Nat.reduceEqDiff,wpTree,attachW,List.getElem?_cons_zero,List.getElem?_cons_succ])
     refine ag ?_;intro k F;simp only[List.mem_cons,List.not_mem_nil,or_false]at F;rcases F with rfl|rfl
     ·simp only[reduceIte,Nat.reduceEqDiff,wpTree,attachW,List.getElem?_cons_zero,List.getElem?_cons_succ];refine' zQ (v:= .slice A nl D) (w':=G) rfl (by have a2:=(o.out.below a8.out).cell 0 _ rfl;go_simp) trivial ?_;refine ag ?_
      (try simp only[reduceIte,Nat.reduceEqDiff,wpTree,attachW,List.getElem?_cons_zero,List.getElem?_cons_succ])
      obtain⟨a7,am⟩:∃H,H=G.alloc (.cells #[.int .i64 (f.1:Int),.int .i64 (f.2:Int),.int .i64 (p1.1:Int),.int .i64 (p1.2:Int)] 47):=⟨_,rfl⟩;have B:Hid (af wr a7):=by show Below _ _ _;rw[am];exact ah a8.out _
      obtain⟨b5,bd⟩:∃b,b=G.heap.size:=⟨_,rfl⟩;have cx:Hid (∀j u,(([f,p1]:List Pt).flatMap eS)[j]?=some u->a7.cell? ((⟨b5,0,none⟩:Addr).add j)=some u):=by show∀_ _,_;rw[am,bd];exact gh G [f,p1] _
      refine' zQ (v:= .slice (some ⟨b5,0,none⟩) 2 2) (w':=a7) rfl (by rw[am,bd];go_simp) trivial ?_;clear am bd;refine' fY (ys:=[f,p1]) (au p.out B.out) (Nat.le_trans m.out.2 B.out.size) rfl _ _ rfl rfl rfl rfl cx.out (by have:=X.out;omega) ?_;intro g l a C hg;have K:=Lib.hid C;have t:Hid (aa a d #[.slice A nl D] 40):=(hg.block d (ar (o.out.below B.out)) (λe=>qM (o.out.below B.out) (au p.out B.out) e.symm rfl)).trans (o.out.below B.out);have M:Hid (aK wr a):=(aK.below B.out).trans (aK.grown (au p.out B.out) hg);have N:Hid (Below n w0 a):=(V.out.trans (B.out.mono m.out.2)).grown hg (Nat.le_trans m.out.2 B.out.size) (λq hq=>((au p.out B.out).lt q hq).1);have O:Hid (n<=a.heap.size):=Nat.le_trans m.out.2 (Nat.le_trans B.out.size hg.size);clear C hg;refine⟨trivial,?_⟩;simp only[yQ,yU,yX,yY];refine' aX (w':=a.setCell ⟨d,0,none⟩ (.slice g (nl+2) l)) rfl (nr rfl ⟨d,0,none⟩ g (nl+2) l rfl rfl (t.out.cell 0 _ rfl) (frozen_of_row _ _ _ _ _ t.out)) trivial ?_;simp only[yQ,yU,yX,yY];refine ag ?_;go_wp2;exact⟨⟨j+1,by omega,by go_num,ac.out g l a N.out K.out t.out M.out O.out⟩,by simp[intOf];omega⟩
     ·simp only[reduceIte,Nat.reduceEqDiff,wpTree,attachW,List.getElem?_cons_zero,List.getElem?_cons_succ];obtain⟨ab,ap⟩:∃H,H=G.alloc (.cells #[.int .i64 (f.1:Int),.int .i64 (f.2:Int),.int .i64 (p1.1:Int),.int .i64 (p1.2:Int)] 47):=⟨_,rfl⟩;have x:Hid (af wr ab):=by show Below _ _ _;rw[ap];exact ah a8.out _
      obtain⟨b6,be⟩:∃b,b=G.heap.size:=⟨_,rfl⟩;have cN:Hid (∀j u,(([f,p1]:List Pt).flatMap eS)[j]?=some u->ab.cell? ((⟨b6,0,none⟩:Addr).add j)=some u):=by show∀_ _,_;rw[ap,be];exact gh G [f,p1] _
      refine' zQ (v:= .slice (some ⟨b6,0,none⟩) 2 2) (w':=ab) rfl (by rw[ap,be];go_simp) trivial ?_;clear ap be;refine ag ?_
      (try simp only[reduceIte,Nat.reduceEqDiff,wpTree,attachW,List.getElem?_cons_zero,List.getElem?_cons_succ])
      refine' zQ (v:= .slice A nl D) (w':=ab) rfl (by have a2:=(o.out.below x.out).cell 0 _ rfl;go_simp) trivial ?_;refine' fY (ys:=[f,p1]) (au p.out x.out) (Nat.le_trans m.out.2 x.out.size) rfl _ _ rfl rfl rfl rfl cN.out (by have:=X.out;omega) ?_;intro g l a C hg;have K:=Lib.hid C;have t:Hid (aa a d #[.slice A nl D] 40):=(hg.block d (ar (o.out.below x.out)) (λe=>qM (o.out.below x.out) (au p.out x.out) e.symm rfl)).trans (o.out.below x.out);have M:Hid (aK wr a):=(aK.below x.out).trans (aK.grown (au p.out x.out) hg);have N:Hid (Below n w0 a):=(V.out.trans (x.out.mono m.out.2)).grown hg (Nat.le_trans m.out.2 x.out.size) (λq hq=>((au p.out x.out).lt q hq).1);have O:Hid (n<=a.heap.size):=Nat.le_trans m.out.2 (Nat.le_trans x.out.size hg.size);clear C hg;refine⟨trivial,?_⟩;simp only[yQ,yU,yX,yY];refine' aX (w':=a.setCell ⟨d,0,none⟩ (.slice g (nl+2) l)) rfl (nr rfl ⟨d,0,none⟩ g (nl+2) l rfl rfl (t.out.cell 0 _ rfl) (frozen_of_row _ _ _ _ _ t.out)) trivial ?_;simp only[yQ,yU,yX,yY];refine ag ?_;go_wp2;exact⟨⟨j+1,by omega,by go_num,ac.out g l a N.out K.out t.out M.out O.out⟩,by simp[intOf];omega⟩
  ·obtain rfl:j=r:=oO;go_wp2;refine bodyPost_end (results_none rfl _ _ _) rfl ?_;exact⟨rfl,E.out.1,E.out.2⟩
end
end Go.Proofs.YtmnlkganmgcpbaaGreatDoor
