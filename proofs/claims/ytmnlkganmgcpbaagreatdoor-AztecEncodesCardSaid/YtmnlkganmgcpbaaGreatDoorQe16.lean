import Derived.Test.YtmnlkganmgcpbaaGreatDoorQe15
set_option maxRecDepth 100000
set_option maxHeartbeats 4000000
set_option linter.unusedVariables false
set_option linter.unusedSectionVars false
set_option linter.unusedSimpArgs false
namespace Go.Proofs.YtmnlkganmgcpbaaGreatDoor
section
open Go.RowKit
def bD (c:Bool):Nat:=if c=true then 5 else 7
def aP (L:Nat) (c:Bool):Nat:=(ao L c-1)/2
def jA (a b:Nat):Nat:=(a-b)+(b-a)
def mo (C:Nat) (p:Pt):Nat:=max (jA p.1 C) (jA p.2 C)
def df (W:Nat) (p:Pt):Nat:=p.2* W+p.1
theorem dU {L i:Nat} {c:Bool} (b:L<=32) (a:i<ax L c):aZ L c i<ao L c:=by
 cases c with
 |true=>unfold aZ ao;simpa using a
 |false=>
  have hb:ax L false=14+4* L:=rfl;have hs:ao L false=ax L false+1+2* ((ax L false/2-1)/15):=rfl;rw[hb]at a hs;unfold aZ;simp only[Bool.false_eq_true,if_false];rw[hb,hs];split<;>omega
theorem wQ {L i:Nat} (b:L<=32) (a:i<ax L false):jA (aZ L false i) (aP L false)%16≠0:=by
 have hb:ax L false=14+4* L:=rfl;have hs:ao L false=ax L false+1+2* ((ax L false/2-1)/15):=rfl;rw[hb]at a hs;unfold aZ jA aP;simp only[Bool.false_eq_true,if_false];rw[hb,hs];split<;>omega
theorem yg {L i:Nat} {c:Bool} (b:L<=32) (a:i<ax L c) (h:i<=2* L-1\/ax L c-1-i<=2* L-1) (d:1<=L):bD c<jA (aZ L c i) (aP L c):=by
 cases c with
 |true=>
  have hb:ax L true=11+4* L:=rfl;have hs:ao L true=ax L true:=rfl;rw[hb]at a h hs;unfold aZ jA aP bD;simp only[if_true];rw[hs];omega
 |false=>
  have hb:ax L false=14+4* L:=rfl;have hs:ao L false=ax L false+1+2* ((ax L false/2-1)/15):=rfl;rw[hb]at a hs h;unfold aZ jA aP bD;simp only[Bool.false_eq_true,if_false];rw[hb,hs];split<;>omega
theorem s6 {L i s j k:Nat} {c:Bool} (b:i<L) (a:j<rN L c i) (d:k<2):(uK L c i s j k).1<ax L c/\(uK L c i s j k).2<ax L c:=by
 unfold rN at a;unfold uK ax;cases c<;>simp only[Bool.false_eq_true,if_false,if_true]at a⊢<;>(repeat' split)<;>simp only<;>omega
theorem Ks {L i s j k:Nat} {c:Bool} (b:i<L) (a:j<rN L c i) (d:k<2):
 ((uK L c i s j k).1<=2* L-1\/ax L c-1-(uK L c i s j k).1<=2* L-1)\/((uK L c i s j k).2<=2* L-1\/ax L c-1-(uK L c i s j k).2<=2* L-1):=by
 unfold rN at a;unfold uK ax;cases c<;>simp only[Bool.false_eq_true,if_false,if_true]at a⊢<;>(repeat' split)<;>simp only<;>omega
theorem sU {L:Nat} {c:Bool} {p:Pt} (h:p∈bR L c):∃i s j k,i<L/\s<4/\j<rN L c i/\k<2/\p=bZ L c i s j k:=by
 obtain⟨i,a,h⟩:=List.mem_flatMap.1 h;obtain⟨s,hs,h⟩:=List.mem_flatMap.1 h;obtain⟨j,b,h⟩:=List.mem_flatMap.1 h;obtain⟨k,d,h⟩:=List.mem_map.1 h;exact⟨i,s,j,k,List.mem_range.1 a,List.mem_range.1 hs,List.mem_range.1 b,List.mem_range.1 d,h.symm⟩
theorem pe {L:Nat} {c:Bool} (a:L<=32) {p:Pt} (h:p∈bR L c):p.1<ao L c/\p.2<ao L c:=by
 obtain⟨i,s,j,k,b,hs,d,e,rfl⟩:=sU h;have hb:=s6 (s:=s) b d e;exact⟨dU a hb.1,dU a hb.2⟩
theorem AB {L:Nat} {c:Bool} (b:L<=32) {p:Pt} (h:p∈bR L c):bD c<mo (aP L c) p:=by
 obtain⟨i,s,j,k,d,hs,e,f,rfl⟩:=sU h;have hb:=s6 (s:=s) d e f;unfold mo;rcases Ks (s:=s) d e f with a|a
 ·exact Nat.lt_of_lt_of_le (yg b hb.1 a oO) (Nat.le_max_left _ _)
 ·exact Nat.lt_of_lt_of_le (yg b hb.2 a oO) (Nat.le_max_right _ _)
theorem Ev {L:Nat} (a:L<=32) {p:Pt} (h:p∈bR L false):jA p.1 (aP L false)%16≠0/\jA p.2 (aP L false)%16≠0:=by
 obtain⟨i,s,j,k,b,hs,c,d,rfl⟩:=sU h;have hb:=s6 (s:=s) b c d;exact⟨wQ a hb.1,wQ a hb.2⟩
theorem wb {L:Nat} {c:Bool}:∀i,i<=L->(iL L c i).length+16* (i* i)=32* (L* i)+(if c=true then 88* i else 112* i)
 |0,_=>by simp[iL]
 |i+1,h=>by
  have a:=wb (L:=L) (c:=c) i oO;rw[pj,List.length_append,j1];have e1:(i+1)* (i+1)=i* i+2* i+1:=by rw[Nat.add_mul,Nat.mul_add];omega
  have e2:L* (i+1)=L* i+L:=by rw[Nat.mul_add,Nat.mul_one]
  rw[e1,e2];unfold rN;cases c<;>simp only[Bool.false_eq_true,if_false,if_true]at a⊢<;>omega
theorem sA (L:Nat) (c:Bool):(bR L c).length=dY L c:=by
 have h:=wb (c:=c) L (Nat.le_refl _);show(iL L c L).length=_;unfold dY;cases c<;>simp only[Bool.false_eq_true,if_false,if_true]at h⊢<;>rw[Nat.add_mul,Nat.mul_assoc]<;>omega
def aE (c:Bool):List Int:=if c=true then[-3,-2,-1,0,1,2,3]else[-5,-4,-3,-2,-1,1,2,3,4,5]
def mU (C:Nat) (a:Int):Nat:=((C:Int)+a).toNat
def dc (C:Nat) (c:Bool):List Pt:=
 (aE c).map (λa=>(mU C a,C-bD c))++(aE c).map (λa=>(C+bD c,mU C a))++(aE c).reverse.map (λa=>(mU C a,C+bD c))++(aE c).reverse.map (λa=>(C-bD c,mU C a))
def bp (C s:Nat):List Pt:=[(C-s,C-s),(C-s+1,C-s),(C-s,C-s+1),(C+s,C-s),(C+s,C-s+1),(C+s,C+s-1)]
def bP (C s:Nat):List Pt:=[(C+s-1,C-s),(C+s,C+s),(C+s-1,C+s),(C-s,C+s),(C-s+1,C+s),(C-s,C+s-1)]
theorem lX {L:Nat} {c:Bool} (a:1<=L) (b:L<=32):bD c+2<=aP L c/\aP L c+bD c+2<ao L c/\ao L c=2* aP L c+1:=by
 cases c with
 |true=>
  have hb:ax L true=11+4* L:=rfl;have hs:ao L true=ax L true:=rfl;rw[hb]at hs;unfold aP bD;simp only[if_true];rw[hs];omega
 |false=>
  have hb:ax L false=14+4* L:=rfl;have hs:ao L false=ax L false+1+2* ((ax L false/2-1)/15):=rfl;rw[hb]at hs;unfold aP bD;simp only[Bool.false_eq_true,if_false];rw[hs];omega
theorem Cx {c:Bool} {a:Int} (h:a∈aE c):-((bD c:Nat):Int)+2<=a/\a+2<=((bD c:Nat):Int):=by
 cases c with
 |true=>simp only[aE,if_true,List.mem_cons,List.not_mem_nil,or_false]at h;simp only[bD,if_true];omega
 |false=>simp only[aE,Bool.false_eq_true,if_false,List.mem_cons,List.not_mem_nil,or_false]at h;simp only[bD,Bool.false_eq_true,if_false];omega
theorem Hw {C:Nat} {c:Bool} (f:bD c<=C) {p:Pt} (h:p∈dc C c):(∃e:Nat,C-bD c+2<=e/\e+2<=C+bD c/\(p=(e,C-bD c)\/p=(C+bD c,e)\/p=(e,C+bD c)\/p=(C-bD c,e))):=by
 have d:∀a∈aE c,C-bD c+2<=mU C a/\mU C a+2<=C+bD c:=λa b=>by
  have:=Cx b;unfold mU;omega
 unfold dc at h;simp only[List.mem_append,List.mem_map,List.mem_reverse]at h;rcases h with((⟨a,b,rfl⟩|⟨a,b,rfl⟩)|⟨a,b,rfl⟩)|⟨a,b,rfl⟩
 ·exact⟨_,(d a b).1,(d a b).2,.inl rfl⟩
 ·exact⟨_,(d a b).1,(d a b).2,.inr (.inl rfl)⟩
 ·exact⟨_,(d a b).1,(d a b).2,.inr (.inr (.inl rfl))⟩
 ·exact⟨_,(d a b).1,(d a b).2,.inr (.inr (.inr rfl))⟩
theorem DF (c:Bool):bD c=5\/bD c=7:=by unfold bD;cases c<;>simp
theorem CY {C:Nat} {c:Bool} (a:bD c<=C) {p:Pt} (h:p∈dc C c):p.1<2* C+1/\p.2<2* C+1:=by
 obtain⟨d,e,f,b⟩:=Hw a h;rcases b with rfl|rfl|rfl|rfl<;>simp only<;>omega
theorem oA (C:Nat) (c:Bool):(dc C c).length=if c=true then 28 else 40:=by cases c<;>rfl
def wrL (W:Nat):List Bool->List Pt->List Bool->List Bool
 |d,p::ps,b::a=>wrL W (d.set (df W p) b) ps a
 |d,[],_=>d
 |d,_::_,[]=>d
def FA (W:Nat) (d:List Bool) (ps:List Pt):List Bool:=ps.map λp=>d.getD (df W p) false
theorem iP (W:Nat) (d:List Bool) (a:List Bool):wrL W d [] a=d:=by unfold wrL;rfl
theorem dk (W:Nat):∀(d:List Bool) (ps:List Pt) (a:List Bool),(wrL W d ps a).length=d.length
 |d,[],a=>by rw[iP]
 |d,p::ps,[]=>rfl
 |d,p::ps,b::a=>by
  show(wrL W (d.set (df W p) b) ps a).length=_;rw[dk,List.length_set]
theorem pL (W:Nat):∀(d:List Bool) (ps a:List Pt) (e c:List Bool),ps.length=e.length->wrL W d (ps++a) (e++c)=wrL W (wrL W d ps e) a c
 |d,[],a,[],c,_=>by rw[iP];rfl
 |d,p::ps,a,b::e,c,h=>by
  show wrL W (d.set (df W p) b) (ps++a) (e++c)=wrL W (wrL W (d.set (df W p) b) ps e) a c;exact pL W _ ps a e c (by simpa using h)
 |d,[],a,b::e,c,h=>by simp at h
 |d,p::ps,a,[],c,h=>by simp at h
theorem mV (W:Nat) (d:List Bool) (ps:List Pt) (a:List Bool) {i:Nat} (b:i<ps.length) (c:i<a.length):wrL W d (ps.take (i+1)) (a.take (i+1))=(wrL W d (ps.take i) (a.take i)).set (df W (ps.getD i (0,0))) (a.getD i false):=by
 rw[List.take_succ_eq_append_getElem b,List.take_succ_eq_append_getElem c,pL _ _ _ _ _ _ oT];simp[wrL,List.getD,b,c]
theorem qI (W:Nat):∀(d:List Bool) (ps:List Pt) (a:List Bool) (i:Nat),(∀p∈ps,df W p≠i)->(wrL W d ps a).getD i false=d.getD i false
 |d,[],a,i,_=>by rw[iP]
 |d,p::ps,[],i,_=>rfl
 |d,p::ps,b::a,i,h=>by
  show(wrL W (d.set (df W p) b) ps a).getD i false=_;rw[qI W _ ps a i λq hq=>h q (List.mem_cons_of_mem _ hq)];have:=h p (List.mem_cons_self ..);simp[List.getD,List.getElem?_set_ne this]
theorem Br (W:Nat) (d:List Bool) (ps:List Pt) (b:List Bool) (a:List Pt) (h:∀q∈a,∀p∈ps,df W p≠df W q):FA W (wrL W d ps b) a=FA W d a:=
 List.map_congr_left λq hq=>qI W d ps b _ λp c=>h q hq p c
theorem EL {W:Nat} {p q:Pt} (a:p.1<W) (hq:q.1<W) (h:df W p=df W q):p=q:=by
 unfold df at h;have e1:(p.2* W+p.1)/W=p.2:=by rw[Nat.add_comm,Nat.add_mul_div_right _ _ oO,Nat.div_eq_of_lt a,Nat.zero_add]
 have e2:(q.2* W+q.1)/W=q.2:=by rw[Nat.add_comm,Nat.add_mul_div_right _ _ oO,Nat.div_eq_of_lt hq,Nat.zero_add]
 have e:p.2=q.2:=by rw[<-e1,<-e2,h]
 rw[e]at h;exact Prod.ext oO e
theorem mA {W H:Nat} {p:Pt} (b:p.1<W) (a:p.2<H):df W p<W* H:=by
 unfold df;have:(p.2+1)* W<=H* W:=Nat.mul_le_mul_right W a;rw[Nat.add_mul,Nat.one_mul]at this;rw[Nat.mul_comm W H];omega
theorem qq (L i:Nat) (c:Bool) (w:World) (h:L<=32) (k:i<ax L c):Calls Tryz.prog 139 #[.int .i64 i,.int .i64 L,.bool c] w λe w'=>e= .returned (.int .i64 ((aZ L c i:Nat):Int))/\w'=w:=by
 cases c with
 |true=>
  have f:Hid (aZ L true i=i):=by show _=_;unfold aZ;simp
  clear k;go_enter Tryz.func139,Tryz.ntmps139;go_wp2;go_ret;exact⟨by rw[f.out];rfl,rfl⟩
 |false=>
  have r:Hid (∀W,Calls Tryz.prog 98 #[.int .i64 L,.bool false] W λe w'=>e= .returned (.int .i64 ((ax L false:Nat):Int))/\w'=W):=λW=>q5 L false W h;have s:Hid (∀W,Calls Tryz.prog 48 #[.int .i64 L,.bool false] W λe w'=>e= .returned (.int .i64 ((ao L false:Nat):Int))/\w'=W):=λW=>nV L false W h;have t:=Lib.hid (fX (c:=false) h);have u:=Lib.hid (dF (c:=false) h);by_cases g:i<ax L false/2
  ·have f:=Lib.hid (Cf h g);generalize aZ L false i=p at*;generalize ax L false=B at*;generalize ao L false=S at*;obtain⟨v,x⟩:=t.out;obtain⟨y,z⟩:=u.out;obtain⟨a,n⟩:∃a,a=B/2:=⟨_,rfl⟩;have e1:(B:Int)/2=(a:Int):=oO;have E:(i:Int)<(a:Int):=oO;obtain⟨j,l⟩:∃j,j=a-1-i:=⟨_,rfl⟩;have e2:(a:Int)-1-(i:Int)=(j:Int):=oO;obtain⟨q,hq⟩:∃q,q=j/15:=⟨_,rfl⟩;have e3:(j:Int)/15=(q:Int):=oO;obtain⟨b,m⟩:∃b,b=(S-1)/2:=⟨_,rfl⟩;have e4:((S:Int)-1)/2=(b:Int):=oO;have o:Hid ((b:Int)-1-(j:Int)-(q:Int)=(p:Int)):=by show _=_;rw[f.out,e1,e2,e3,e4]
   have A:j<=200:=oO;have C:q<=200:=oO;have D:b<=200:=oO;clear n l hq m g k;go_enter Tryz.func139,Tryz.ntmps139
   go_wp2_with(first
    |(go_at_call 48;refine(s.out _).mono ?_;rintro e w1 ⟨rfl,d⟩;rw[d];clear d)
    |(go_at_call 98;refine(r.out _).mono ?_;rintro e w1 ⟨rfl,d⟩;rw[d];clear d))
   go_ret;exact⟨bK o.out,rfl⟩
  ·have f:=Lib.hid (CD h g);generalize aZ L false i=p at*;generalize ax L false=B at*;generalize ao L false=S at*;obtain⟨v,x⟩:=t.out;obtain⟨y,z⟩:=u.out;obtain⟨a,n⟩:∃a,a=B/2:=⟨_,rfl⟩;have e1:(B:Int)/2=(a:Int):=oO;have E:¬((i:Int)<(a:Int)):=oO;obtain⟨j,l⟩:∃j,j=i-a:=⟨_,rfl⟩;have e2:(i:Int)-(a:Int)=(j:Int):=oO;obtain⟨q,hq⟩:∃q,q=j/15:=⟨_,rfl⟩;have e3:(j:Int)/15=(q:Int):=oO;obtain⟨b,m⟩:∃b,b=(S-1)/2:=⟨_,rfl⟩;have e4:((S:Int)-1)/2=(b:Int):=oO;have o:Hid ((b:Int)+1+(j:Int)+(q:Int)=(p:Int)):=by show _=_;rw[f.out,e1,e2,e3,e4]
   have A:j<=200:=oO;have C:q<=200:=oO;have D:b<=200:=oO;clear n l hq m g k;go_enter Tryz.func139,Tryz.ntmps139
   go_wp2_with(first
    |(go_at_call 48;refine(s.out _).mono ?_;rintro e w1 ⟨rfl,d⟩;rw[d];clear d)
    |(go_at_call 98;refine(r.out _).mono ?_;rintro e w1 ⟨rfl,d⟩;rw[d];clear d))
   go_ret;exact⟨bK o.out,rfl⟩
theorem AR (L x y:Nat) (c:Bool) (w:World) (h:L<=32) (b:x<ax L c) (d:y<ax L c):Calls Tryz.prog 99 #[.int .i64 x,.int .i64 y,.int .i64 L,.bool c] w λe w'=>e= .returned (.agg #[.int .i64 (((l8 L c (x,y)).1:Nat):Int),.int .i64 (((l8 L c (x,y)).2:Nat):Int)])/\Below w.heap.size w w':=by
 have f:Hid (∀W,Calls Tryz.prog 139 #[.int .i64 x,.int .i64 L,.bool c] W λe w'=>e= .returned (.int .i64 (((l8 L c (x,y)).1:Nat):Int))/\w'=W):=λW=>qq L x c W h b;have g:Hid (∀W,Calls Tryz.prog 139 #[.int .i64 y,.int .i64 L,.bool c] W λe w'=>e= .returned (.int .i64 (((l8 L c (x,y)).2:Nat):Int))/\w'=W):=λW=>qq L y c W h d;generalize l8 L c (x,y)=p at*;clear b d;go_enter Tryz.func99,Tryz.ntmps99
 go_wp2_with(first
  |(go_at_call 139;(with_reducible refine(f.out _).mono ?_);rintro e w1 ⟨rfl,a⟩;rw[a];clear a)
  |(go_at_call 139;(with_reducible refine(g.out _).mono ?_);rintro e w1 ⟨rfl,a⟩;rw[a];clear a))
 exact bodyPost_ret (v:= .agg #[.int .i64 (p.1:Int),.int .i64 (p.2:Int)]) (by simp[results,Tryz.results99,go_sem]) rfl ⟨rfl,ar _ _⟩
theorem uQ {L i s j k:Nat} {c:Bool} (b:L<=32) (d:i<L) (a:j<rN L c i) (e:k<2):2* i+k<ax L c/\2* i+j<ax L c:=by
 unfold rN at a;unfold ax;cases c<;>simp at a⊢<;>omega
theorem ic (i:Nat) (w:World):Calls Tryz.prog 137 #[.int .i64 i] w λe w'=>e= .returned (.int .i64 (i:Int))/\w'=w:=by
 go_enter Tryz.func137,Tryz.ntmps137;go_wp2;go_ret;exact⟨rfl,rfl⟩
def HC (L:Nat) (W:World) (hb a:Nat):Prop:=aa W hb #[.int .i64 ((ax L false/2:Nat):Int)] 3/\aa W a #[.int .i64 ((aP L false:Nat):Int)] 3
theorem ik (L i hb k:Nat) (w:World) (h:L<=32) (o:i<ax L false) (hc:HC L w hb k):Calls Tryz.prog 138 #[.int .i64 i,.pointer (some ⟨hb,0,none⟩),.pointer (some ⟨k,0,none⟩)] w λe w'=>e= .returned (.int .i64 ((aZ L false i:Nat):Int))/\w'=w:=by
 have m:=Lib.hid (fX (c:=false) h);have r:=Lib.hid (dF (c:=false) h);have y:w.cell? ⟨hb,0,none⟩=some (.int .i64 ((ax L false/2:Nat):Int)):=hc.1.cell 0 _ rfl;have z:w.cell? ⟨k,0,none⟩=some (.int .i64 ((aP L false:Nat):Int)):=hc.2.cell 0 _ rfl;have s:Hid (((aP L false:Nat):Int)=((ao L false:Int)-1)/2):=by
  have:=dF (c:=false) h;show _=_;unfold aP;omega
 clear hc;by_cases f:i<ax L false/2
 ·have a:=Lib.hid (Cf h f);rw[<-s.out]at a;have d:(ax L false:Int)/2=((ax L false/2:Nat):Int):=oO;rw[d]at a;clear d;have hB:ax L false/2<=100:=by have:=m.out;omega
  have t:aP L false<=100:=by have:=r.out;unfold aP;omega
  generalize aZ L false i=p at*;generalize ax L false/2=b at*;generalize aP L false=g at*;have x:(i:Int)<(b:Int):=oO;obtain⟨j,l⟩:∃j,j=b-1-i:=⟨_,rfl⟩;have e2:(b:Int)-1-(i:Int)=(j:Int):=oO;obtain⟨q,hq⟩:∃q,q=j/15:=⟨_,rfl⟩;have e3:(j:Int)/15=(q:Int):=oO;have n:Hid ((g:Int)-1-(j:Int)-(q:Int)=(p:Int)):=by show _=_;rw[a.out,e2,e3]
  have u:j<=200:=oO;have v:q<=200:=oO;clear l hq f o;go_enter Tryz.func138,Tryz.ntmps138;go_wp2;go_ret;exact⟨bK n.out,rfl⟩
 ·have a:=Lib.hid (CD h f);rw[<-s.out]at a;have d:(ax L false:Int)/2=((ax L false/2:Nat):Int):=oO;rw[d]at a;clear d;have hB:ax L false/2<=100:=by have:=m.out;omega
  have t:aP L false<=100:=by have:=r.out;unfold aP;omega
  have A:i<=200:=by have:=m.out;omega
  generalize aZ L false i=p at*;generalize ax L false/2=b at*;generalize aP L false=g at*;have x:¬((i:Int)<(b:Int)):=oO;obtain⟨j,l⟩:∃j,j=i-b:=⟨_,rfl⟩;have e2:(i:Int)-(b:Int)=(j:Int):=oO;obtain⟨q,hq⟩:∃q,q=j/15:=⟨_,rfl⟩;have e3:(j:Int)/15=(q:Int):=oO;have n:Hid ((g:Int)+1+(j:Int)+(q:Int)=(p:Int)):=by show _=_;rw[a.out,e2,e3]
  have u:j<=200:=oO;have v:q<=200:=oO;clear l hq f o;go_enter Tryz.func138,Tryz.ntmps138;go_wp2;go_ret;exact⟨bK n.out,rfl⟩
def FG (c:Bool) (hb a:Nat):Value:=if c=true then .func (Fn.func 137) #[] #[]else .func (Fn.func 138) #[] #[.pointer (some ⟨hb,0,none⟩),.pointer (some ⟨a,0,none⟩)]
structure lp (L:Nat) (c:Bool) (b lb hb a:Nat) (W:World):Prop where
 P:aa W b #[FG c hb a] 77
 Q:aa W lb #[.int .i64 ((ax L c-1:Nat):Int)] 3
 H:c=false->HC L W hb a
def notPts:Obj->Bool
 |.cells _ a _=>!(a==47)&&!(a==40)
 |_=>true
def aO (w w':World):Prop:=∀(k:Nat) (a:Obj),w.heap[k]?=some a->notPts a=true->w'.heap[k]?=some a
theorem aO.refl (w:World):aO w w:=λ_ _ h _=>h
theorem aO.trans {a b c:World} (h:aO a b) (f:aO b c):aO a c:=λk d g e=>f k d (h k d g e) e
theorem aO.below {w W:World} (h:Below w.heap.size w W):aO w W:=λk b a _=>(h.block k (aw a)).trans a
theorem aa.gR {w w':World} {g:Nat} {b:Array Value} {a:TypeId} (h:aa w g b a) (c:aO w w') (d:notPts (.cells b a (0,0))=true):aa w' g b a:=c g _ h d
theorem lp.cZ {L:Nat} {c:Bool} {b lb hb d:Nat} {w W:World} (h:lp L c b lb hb d w) (a:aO w W):lp L c b lb hb d W:=
 ⟨h.P.gR a rfl,h.Q.gR a rfl,λe=>⟨(h.H e).1.gR a rfl,(h.H e).2.gR a rfl⟩⟩
theorem C5 (L:Nat) (c:Bool) (E lb F hb q i j k:Nat) (w:World) (f:L<=32) (J:i<L) (K:j<rN L c i) (M:k<2) (N:lp L c E lb hb q w) (O:aa w F #[.int .i64 i] 3):
 Calls Tryz.prog 94 #[.int .i64 j,.int .i64 k,.pointer (some ⟨E,0,none⟩),.pointer (some ⟨F,0,none⟩)] w λe w'=>e= .returned (.agg #[.int .i64 (((bZ L c i 0 j k).1:Nat):Int),.int .i64 (((bZ L c i 0 j k).2:Nat):Int)])/\Below w.heap.size w w':=by
 obtain⟨n,a1⟩:=uQ (s:=0) f J K M;have a2:=(fX (c:=c) f).2;obtain⟨b,V⟩:∃b,b=2* i+k:=⟨_,rfl⟩;obtain⟨d,X⟩:∃d,d=2* i+j:=⟨_,rfl⟩;obtain⟨l,A⟩:∃l,l=ax L c-1:=⟨_,rfl⟩;obtain⟨r,Y⟩:∃r,r=l-b:=⟨_,rfl⟩;obtain⟨t,Z⟩:∃t,t=l-d:=⟨_,rfl⟩;obtain⟨p,a3⟩:∃p,p=2* i:=⟨_,rfl⟩;obtain⟨u,a4⟩:∃u,u=l-p:=⟨_,rfl⟩;have a7:IntKind.i64.wrap (2* (i:Int))=(p:Int):=by rw[aJ _ oO oO];omega
 have a8:IntKind.i64.wrap ((p:Int)+(k:Int))=(b:Int):=by rw[aJ _ oO oO];omega
 have a9:IntKind.i64.wrap ((p:Int)+(j:Int))=(d:Int):=by rw[aJ _ oO oO];omega
 have bb:IntKind.i64.wrap ((l:Int)-(p:Int))=(u:Int):=by rw[aJ _ oO oO];omega
 have bd:IntKind.i64.wrap ((u:Int)-(k:Int))=(r:Int):=by rw[aJ _ oO oO];omega
 have be:IntKind.i64.wrap ((u:Int)-(j:Int))=(t:Int):=by rw[aJ _ oO oO];omega
 have ap:Hid (bZ L c i 0 j k=(aZ L c b,aZ L c d)):=by
  show _=_;clear a7 a8 a9 bb bd be;subst Y Z A V X;rfl
 have C:b<ax L c:=oO;have D:d<ax L c:=oO;have a5:r<ax L c:=oO;have a6:t<ax L c:=oO;have bv:i<=32:=oO;have bx:j<=142:=oO;have b1:l<=142:=oO;have bf:b<=142/\d<=142/\r<=142/\t<=142:=oO;obtain⟨bo,bq,bs,bt⟩:=bf;have G:=Lib.hid N;have av:=Lib.hid O;obtain⟨g,H⟩:∃g,g=w.alloc (.cells #[.int .i64 0,.int .i64 0] 47):=⟨_,rfl⟩;have o:Hid (Below w.heap.size w g):=by show Below _ _ _;rw[H];exact ar _ _
 have a0:Hid (∀W,af g W->aa W w.heap.size #[.int .i64 0,.int .i64 0] 47):=λW a=>by
  have:aa g w.heap.size #[.int .i64 0,.int .i64 0] 47:=by rw[H];exact aa.new _ _ _ _ oS
  exact this.below a
 cases c with
 |true=>
  have ac:Hid (∀W,af g W->Calls Tryz.prog 137 #[.int .i64 b] W λe w'=>e= .returned (.int .i64 ((aZ L true b:Nat):Int))/\Below W.heap.size W w'):=λW a=>by rw[show aZ L true b=b from rfl];exact(ic b W).mono (by rintro e w1 ⟨rfl,rfl⟩;exact⟨rfl,Below.refl _ _⟩)
  have ad:Hid (∀W,af g W->Calls Tryz.prog 137 #[.int .i64 d] W λe w'=>e= .returned (.int .i64 ((aZ L true d:Nat):Int))/\Below W.heap.size W w'):=λW a=>by rw[show aZ L true d=d from rfl];exact(ic d W).mono (by rintro e w1 ⟨rfl,rfl⟩;exact⟨rfl,Below.refl _ _⟩)
  have z:Hid (∀W,af g W->W.cell? ⟨E,0,none⟩=some (.func (Fn.func 137) #[] #[])/\W.cell? ⟨lb,0,none⟩=some (.int .i64 l)/\W.cell? ⟨F,0,none⟩=some (.int .i64 i)):=by
   show∀W,_;intro W a;have h:=G.out.cZ (aO.below (ab o.out a));have al:=av.out.below (ab o.out a);refine⟨h.P.cell 0 _ rfl,?_,al.cell 0 _ rfl⟩;rw[A];exact h.Q.cell 0 _ rfl
  rw[ap.out];have bi:Hid (aZ L true b<=200/\aZ L true d<=200):=by
   have:=dU f C;have:=dU f D;have:=dF (c:=true) f
   show _/\_;omega
  generalize aZ L true b=x at*;generalize aZ L true d=y at*;clear N O J K M A V X Y Z a3 a4 C D a5 a6 n a1 a2 f;subst H;go_enter Tryz.func94,Tryz.ntmps94;go_wp2;refine du (S:=(λW=>af (w.alloc (.cells #[.int .i64 0,.int .i64 0] 47)) W)) 12 oK oK (ak (Below.refl _ _)) ?_;simp only[List.take_succ_cons,List.take_zero,List.drop_succ_cons,List.drop_zero]
  repeat refine kO z.out ?_
  refine kX (λW a=>ac.out W a) ?_
  repeat refine kO z.out ?_
  refine kX (λW a=>ad.out W a) ?_;refine eO ?_;intro w1 n;have B:=Lib.hid n;clear n;have m:=Lib.hid (a0.out _ B.out);have P:w1.cell? ⟨w.heap.size,0,none⟩=some (.int .i64 0):=m.out.cell 0 _ rfl;have Q:w1.cell? ⟨w.heap.size,1,none⟩=some (.int .i64 0):=m.out.cell 1 _ rfl;have T:w1.frozen? ⟨w.heap.size,0,none⟩=false:=frozen_of_row _ _ _ _ _ m.out;have U:w1.frozen? ⟨w.heap.size,1,none⟩=false:=frozen_of_row _ _ _ _ _ m.out;have am:Hid (Below w.heap.size w w1):=ab o.out B.out;go_wp2;exact bodyPost_ret (v:= .agg #[.int .i64 (x:Int),.int .i64 (y:Int)]) (by simp[results,Tryz.results94,go_sem,P,Q,T,U]) rfl ⟨rfl,(am.out.setCell oS _).setCell oS _⟩
 |false=>
  have ac:Hid (∀W,af g W->Calls Tryz.prog 138 #[.int .i64 b,.pointer (some ⟨hb,0,none⟩),.pointer (some ⟨q,0,none⟩)] W λe w'=>e= .returned (.int .i64 ((aZ L false b:Nat):Int))/\Below W.heap.size W w'):=λW a=>(ik L b hb q W f C ((G.out.cZ (aO.below (ab o.out a))).H rfl)).mono (by rintro e w1 ⟨rfl,rfl⟩;exact⟨rfl,Below.refl _ _⟩);have ad:Hid (∀W,af g W->Calls Tryz.prog 138 #[.int .i64 d,.pointer (some ⟨hb,0,none⟩),.pointer (some ⟨q,0,none⟩)] W λe w'=>e= .returned (.int .i64 ((aZ L false d:Nat):Int))/\Below W.heap.size W w'):=λW a=>(ik L d hb q W f D ((G.out.cZ (aO.below (ab o.out a))).H rfl)).mono (by rintro e w1 ⟨rfl,rfl⟩;exact⟨rfl,Below.refl _ _⟩);have z:Hid (∀W,af g W->W.cell? ⟨E,0,none⟩=some (.func (Fn.func 138) #[] #[.pointer (some ⟨hb,0,none⟩),.pointer (some ⟨q,0,none⟩)])/\W.cell? ⟨lb,0,none⟩=some (.int .i64 l)/\W.cell? ⟨F,0,none⟩=some (.int .i64 i)):=by
   show∀W,_;intro W a;have h:=G.out.cZ (aO.below (ab o.out a));have al:=av.out.below (ab o.out a);refine⟨h.P.cell 0 _ rfl,?_,al.cell 0 _ rfl⟩;rw[A];exact h.Q.cell 0 _ rfl
  rw[ap.out];have bi:Hid (aZ L false b<=200/\aZ L false d<=200):=by
   have:=dU f C;have:=dU f D;have:=dF (c:=false) f
   show _/\_;omega
  generalize aZ L false b=x at*;generalize aZ L false d=y at*;clear N O J K M A V X Y Z a3 a4 C D a5 a6 n a1 a2 f;subst H;go_enter Tryz.func94,Tryz.ntmps94;go_wp2;refine du (S:=(λW=>af (w.alloc (.cells #[.int .i64 0,.int .i64 0] 47)) W)) 12 oK oK (ak (Below.refl _ _)) ?_;simp only[List.take_succ_cons,List.take_zero,List.drop_succ_cons,List.drop_zero]
  repeat refine kO z.out ?_
  refine kX (λW a=>ac.out W a) ?_
  repeat refine kO z.out ?_
  refine kX (λW a=>ad.out W a) ?_;refine eO ?_;intro w1 n;have B:=Lib.hid n;clear n;have m:=Lib.hid (a0.out _ B.out);have P:w1.cell? ⟨w.heap.size,0,none⟩=some (.int .i64 0):=m.out.cell 0 _ rfl;have Q:w1.cell? ⟨w.heap.size,1,none⟩=some (.int .i64 0):=m.out.cell 1 _ rfl;have T:w1.frozen? ⟨w.heap.size,0,none⟩=false:=frozen_of_row _ _ _ _ _ m.out;have U:w1.frozen? ⟨w.heap.size,1,none⟩=false:=frozen_of_row _ _ _ _ _ m.out;have am:Hid (Below w.heap.size w w1):=ab o.out B.out;go_wp2;exact bodyPost_ret (v:= .agg #[.int .i64 (x:Int),.int .i64 (y:Int)]) (by simp[results,Tryz.results94,go_sem,P,Q,T,U]) rfl ⟨rfl,(am.out.setCell oS _).setCell oS _⟩
theorem CJ (L:Nat) (c:Bool) (E lb F hb q i j k:Nat) (w:World) (f:L<=32) (J:i<L) (K:j<rN L c i) (M:k<2) (N:lp L c E lb hb q w) (O:aa w F #[.int .i64 i] 3):
 Calls Tryz.prog 95 #[.int .i64 j,.int .i64 k,.pointer (some ⟨E,0,none⟩),.pointer (some ⟨F,0,none⟩),.pointer (some ⟨lb,0,none⟩)] w λe w'=>e= .returned (.agg #[.int .i64 (((bZ L c i 1 j k).1:Nat):Int),.int .i64 (((bZ L c i 1 j k).2:Nat):Int)])/\Below w.heap.size w w':=by
 obtain⟨n,a1⟩:=uQ (s:=0) f J K M;have a2:=(fX (c:=c) f).2;obtain⟨r,V⟩:∃r,r=2* i+k:=⟨_,rfl⟩;obtain⟨b,X⟩:∃b,b=2* i+j:=⟨_,rfl⟩;obtain⟨l,A⟩:∃l,l=ax L c-1:=⟨_,rfl⟩;obtain⟨d,Y⟩:∃d,d=l-r:=⟨_,rfl⟩;obtain⟨t,Z⟩:∃t,t=l-b:=⟨_,rfl⟩;obtain⟨p,a3⟩:∃p,p=2* i:=⟨_,rfl⟩;obtain⟨u,a4⟩:∃u,u=l-p:=⟨_,rfl⟩;have a7:IntKind.i64.wrap (2* (i:Int))=(p:Int):=by rw[aJ _ oO oO];omega
 have a8:IntKind.i64.wrap ((p:Int)+(k:Int))=(r:Int):=by rw[aJ _ oO oO];omega
 have a9:IntKind.i64.wrap ((p:Int)+(j:Int))=(b:Int):=by rw[aJ _ oO oO];omega
 have bb:IntKind.i64.wrap ((l:Int)-(p:Int))=(u:Int):=by rw[aJ _ oO oO];omega
 have bd:IntKind.i64.wrap ((u:Int)-(k:Int))=(d:Int):=by rw[aJ _ oO oO];omega
 have be:IntKind.i64.wrap ((u:Int)-(j:Int))=(t:Int):=by rw[aJ _ oO oO];omega
 have ap:Hid (bZ L c i 1 j k=(aZ L c b,aZ L c d)):=by
  show _=_;clear a7 a8 a9 bb bd be;subst Y Z A V X;rfl
 have a5:r<ax L c:=oO;have C:b<ax L c:=oO;have D:d<ax L c:=oO;have a6:t<ax L c:=oO;have bv:i<=32:=oO;have bx:j<=142:=oO;have b1:l<=142:=oO;have bf:r<=142/\b<=142/\d<=142/\t<=142:=oO;obtain⟨bo,bq,bs,bt⟩:=bf;have G:=Lib.hid N;have av:=Lib.hid O;obtain⟨g,H⟩:∃g,g=w.alloc (.cells #[.int .i64 0,.int .i64 0] 47):=⟨_,rfl⟩;have o:Hid (Below w.heap.size w g):=by show Below _ _ _;rw[H];exact ar _ _
 have a0:Hid (∀W,af g W->aa W w.heap.size #[.int .i64 0,.int .i64 0] 47):=λW a=>by
  have:aa g w.heap.size #[.int .i64 0,.int .i64 0] 47:=by rw[H];exact aa.new _ _ _ _ oS
  exact this.below a
 cases c with
 |true=>
  have ac:Hid (∀W,af g W->Calls Tryz.prog 137 #[.int .i64 b] W λe w'=>e= .returned (.int .i64 ((aZ L true b:Nat):Int))/\Below W.heap.size W w'):=λW a=>by rw[show aZ L true b=b from rfl];exact(ic b W).mono (by rintro e w1 ⟨rfl,rfl⟩;exact⟨rfl,Below.refl _ _⟩)
  have ad:Hid (∀W,af g W->Calls Tryz.prog 137 #[.int .i64 d] W λe w'=>e= .returned (.int .i64 ((aZ L true d:Nat):Int))/\Below W.heap.size W w'):=λW a=>by rw[show aZ L true d=d from rfl];exact(ic d W).mono (by rintro e w1 ⟨rfl,rfl⟩;exact⟨rfl,Below.refl _ _⟩)
  have z:Hid (∀W,af g W->W.cell? ⟨E,0,none⟩=some (.func (Fn.func 137) #[] #[])/\W.cell? ⟨lb,0,none⟩=some (.int .i64 l)/\W.cell? ⟨F,0,none⟩=some (.int .i64 i)):=by
   show∀W,_;intro W a;have h:=G.out.cZ (aO.below (ab o.out a));have al:=av.out.below (ab o.out a);refine⟨h.P.cell 0 _ rfl,?_,al.cell 0 _ rfl⟩;rw[A];exact h.Q.cell 0 _ rfl
  rw[ap.out];have bi:Hid (aZ L true b<=200/\aZ L true d<=200):=by
   have:=dU f C;have:=dU f D;have:=dF (c:=true) f
   show _/\_;omega
  generalize aZ L true b=x at*;generalize aZ L true d=y at*;clear N O J K M A V X Y Z a3 a4 a5 C D a6 n a1 a2 f;subst H;go_enter Tryz.func95,Tryz.ntmps95;go_wp2;refine du (S:=(λW=>af (w.alloc (.cells #[.int .i64 0,.int .i64 0] 47)) W)) 14 oK oK (ak (Below.refl _ _)) ?_;simp only[List.take_succ_cons,List.take_zero,List.drop_succ_cons,List.drop_zero]
  repeat refine kO z.out ?_
  refine kX (λW a=>ac.out W a) ?_
  repeat refine kO z.out ?_
  refine kX (λW a=>ad.out W a) ?_;refine eO ?_;intro w1 n;have B:=Lib.hid n;clear n;have m:=Lib.hid (a0.out _ B.out);have P:w1.cell? ⟨w.heap.size,0,none⟩=some (.int .i64 0):=m.out.cell 0 _ rfl;have Q:w1.cell? ⟨w.heap.size,1,none⟩=some (.int .i64 0):=m.out.cell 1 _ rfl;have T:w1.frozen? ⟨w.heap.size,0,none⟩=false:=frozen_of_row _ _ _ _ _ m.out;have U:w1.frozen? ⟨w.heap.size,1,none⟩=false:=frozen_of_row _ _ _ _ _ m.out;have am:Hid (Below w.heap.size w w1):=ab o.out B.out;go_wp2;exact bodyPost_ret (v:= .agg #[.int .i64 (x:Int),.int .i64 (y:Int)]) (by simp[results,Tryz.results95,go_sem,P,Q,T,U]) rfl ⟨rfl,(am.out.setCell oS _).setCell oS _⟩
 |false=>
  have ac:Hid (∀W,af g W->Calls Tryz.prog 138 #[.int .i64 b,.pointer (some ⟨hb,0,none⟩),.pointer (some ⟨q,0,none⟩)] W λe w'=>e= .returned (.int .i64 ((aZ L false b:Nat):Int))/\Below W.heap.size W w'):=λW a=>(ik L b hb q W f C ((G.out.cZ (aO.below (ab o.out a))).H rfl)).mono (by rintro e w1 ⟨rfl,rfl⟩;exact⟨rfl,Below.refl _ _⟩);have ad:Hid (∀W,af g W->Calls Tryz.prog 138 #[.int .i64 d,.pointer (some ⟨hb,0,none⟩),.pointer (some ⟨q,0,none⟩)] W λe w'=>e= .returned (.int .i64 ((aZ L false d:Nat):Int))/\Below W.heap.size W w'):=λW a=>(ik L d hb q W f D ((G.out.cZ (aO.below (ab o.out a))).H rfl)).mono (by rintro e w1 ⟨rfl,rfl⟩;exact⟨rfl,Below.refl _ _⟩);have z:Hid (∀W,af g W->W.cell? ⟨E,0,none⟩=some (.func (Fn.func 138) #[] #[.pointer (some ⟨hb,0,none⟩),.pointer (some ⟨q,0,none⟩)])/\W.cell? ⟨lb,0,none⟩=some (.int .i64 l)/\W.cell? ⟨F,0,none⟩=some (.int .i64 i)):=by
   show∀W,_;intro W a;have h:=G.out.cZ (aO.below (ab o.out a));have al:=av.out.below (ab o.out a);refine⟨h.P.cell 0 _ rfl,?_,al.cell 0 _ rfl⟩;rw[A];exact h.Q.cell 0 _ rfl
  rw[ap.out];have bi:Hid (aZ L false b<=200/\aZ L false d<=200):=by
   have:=dU f C;have:=dU f D;have:=dF (c:=false) f
   show _/\_;omega
  generalize aZ L false b=x at*;generalize aZ L false d=y at*;clear N O J K M A V X Y Z a3 a4 a5 C D a6 n a1 a2 f;subst H;go_enter Tryz.func95,Tryz.ntmps95;go_wp2;refine du (S:=(λW=>af (w.alloc (.cells #[.int .i64 0,.int .i64 0] 47)) W)) 14 oK oK (ak (Below.refl _ _)) ?_;simp only[List.take_succ_cons,List.take_zero,List.drop_succ_cons,List.drop_zero]
  repeat refine kO z.out ?_
  refine kX (λW a=>ac.out W a) ?_
  repeat refine kO z.out ?_
  refine kX (λW a=>ad.out W a) ?_;refine eO ?_;intro w1 n;have B:=Lib.hid n;clear n;have m:=Lib.hid (a0.out _ B.out);have P:w1.cell? ⟨w.heap.size,0,none⟩=some (.int .i64 0):=m.out.cell 0 _ rfl;have Q:w1.cell? ⟨w.heap.size,1,none⟩=some (.int .i64 0):=m.out.cell 1 _ rfl;have T:w1.frozen? ⟨w.heap.size,0,none⟩=false:=frozen_of_row _ _ _ _ _ m.out;have U:w1.frozen? ⟨w.heap.size,1,none⟩=false:=frozen_of_row _ _ _ _ _ m.out;have am:Hid (Below w.heap.size w w1):=ab o.out B.out;go_wp2;exact bodyPost_ret (v:= .agg #[.int .i64 (x:Int),.int .i64 (y:Int)]) (by simp[results,Tryz.results95,go_sem,P,Q,T,U]) rfl ⟨rfl,(am.out.setCell oS _).setCell oS _⟩
theorem CI (L:Nat) (c:Bool) (E lb F hb q i j k:Nat) (w:World) (f:L<=32) (J:i<L) (K:j<rN L c i) (M:k<2) (N:lp L c E lb hb q w) (O:aa w F #[.int .i64 i] 3):
 Calls Tryz.prog 96 #[.int .i64 j,.int .i64 k,.pointer (some ⟨E,0,none⟩),.pointer (some ⟨lb,0,none⟩),.pointer (some ⟨F,0,none⟩)] w λe w'=>e= .returned (.agg #[.int .i64 (((bZ L c i 2 j k).1:Nat):Int),.int .i64 (((bZ L c i 2 j k).2:Nat):Int)])/\Below w.heap.size w w':=by
 obtain⟨n,a1⟩:=uQ (s:=0) f J K M;have a2:=(fX (c:=c) f).2;obtain⟨r,V⟩:∃r,r=2* i+k:=⟨_,rfl⟩;obtain⟨t,X⟩:∃t,t=2* i+j:=⟨_,rfl⟩;obtain⟨l,A⟩:∃l,l=ax L c-1:=⟨_,rfl⟩;obtain⟨b,Y⟩:∃b,b=l-r:=⟨_,rfl⟩;obtain⟨d,Z⟩:∃d,d=l-t:=⟨_,rfl⟩;obtain⟨p,a3⟩:∃p,p=2* i:=⟨_,rfl⟩;obtain⟨u,a4⟩:∃u,u=l-p:=⟨_,rfl⟩;have a7:IntKind.i64.wrap (2* (i:Int))=(p:Int):=by rw[aJ _ oO oO];omega
 have a8:IntKind.i64.wrap ((p:Int)+(k:Int))=(r:Int):=by rw[aJ _ oO oO];omega
 have a9:IntKind.i64.wrap ((p:Int)+(j:Int))=(t:Int):=by rw[aJ _ oO oO];omega
 have bb:IntKind.i64.wrap ((l:Int)-(p:Int))=(u:Int):=by rw[aJ _ oO oO];omega
 have bd:IntKind.i64.wrap ((u:Int)-(k:Int))=(b:Int):=by rw[aJ _ oO oO];omega
 have be:IntKind.i64.wrap ((u:Int)-(j:Int))=(d:Int):=by rw[aJ _ oO oO];omega
 have ap:Hid (bZ L c i 2 j k=(aZ L c b,aZ L c d)):=by
  show _=_;clear a7 a8 a9 bb bd be;subst Y Z A V X;rfl
 have a5:r<ax L c:=oO;have a6:t<ax L c:=oO;have C:b<ax L c:=oO;have D:d<ax L c:=oO;have bv:i<=32:=oO;have bx:j<=142:=oO;have b1:l<=142:=oO;have bf:r<=142/\t<=142/\b<=142/\d<=142:=oO;obtain⟨bo,bq,bs,bt⟩:=bf;have G:=Lib.hid N;have av:=Lib.hid O;obtain⟨g,H⟩:∃g,g=w.alloc (.cells #[.int .i64 0,.int .i64 0] 47):=⟨_,rfl⟩;have o:Hid (Below w.heap.size w g):=by show Below _ _ _;rw[H];exact ar _ _
 have a0:Hid (∀W,af g W->aa W w.heap.size #[.int .i64 0,.int .i64 0] 47):=λW a=>by
  have:aa g w.heap.size #[.int .i64 0,.int .i64 0] 47:=by rw[H];exact aa.new _ _ _ _ oS
  exact this.below a
 cases c with
 |true=>
  have ac:Hid (∀W,af g W->Calls Tryz.prog 137 #[.int .i64 b] W λe w'=>e= .returned (.int .i64 ((aZ L true b:Nat):Int))/\Below W.heap.size W w'):=λW a=>by rw[show aZ L true b=b from rfl];exact(ic b W).mono (by rintro e w1 ⟨rfl,rfl⟩;exact⟨rfl,Below.refl _ _⟩)
  have ad:Hid (∀W,af g W->Calls Tryz.prog 137 #[.int .i64 d] W λe w'=>e= .returned (.int .i64 ((aZ L true d:Nat):Int))/\Below W.heap.size W w'):=λW a=>by rw[show aZ L true d=d from rfl];exact(ic d W).mono (by rintro e w1 ⟨rfl,rfl⟩;exact⟨rfl,Below.refl _ _⟩)
  have z:Hid (∀W,af g W->W.cell? ⟨E,0,none⟩=some (.func (Fn.func 137) #[] #[])/\W.cell? ⟨lb,0,none⟩=some (.int .i64 l)/\W.cell? ⟨F,0,none⟩=some (.int .i64 i)):=by
   show∀W,_;intro W a;have h:=G.out.cZ (aO.below (ab o.out a));have al:=av.out.below (ab o.out a);refine⟨h.P.cell 0 _ rfl,?_,al.cell 0 _ rfl⟩;rw[A];exact h.Q.cell 0 _ rfl
  rw[ap.out];have bi:Hid (aZ L true b<=200/\aZ L true d<=200):=by
   have:=dU f C;have:=dU f D;have:=dF (c:=true) f
   show _/\_;omega
  generalize aZ L true b=x at*;generalize aZ L true d=y at*;clear N O J K M A V X Y Z a3 a4 a5 a6 C D n a1 a2 f;subst H;go_enter Tryz.func96,Tryz.ntmps96;go_wp2;refine du (S:=(λW=>af (w.alloc (.cells #[.int .i64 0,.int .i64 0] 47)) W)) 16 oK oK (ak (Below.refl _ _)) ?_;simp only[List.take_succ_cons,List.take_zero,List.drop_succ_cons,List.drop_zero]
  repeat refine kO z.out ?_
  refine kX (λW a=>ac.out W a) ?_
  repeat refine kO z.out ?_
  refine kX (λW a=>ad.out W a) ?_;refine eO ?_;intro w1 n;have B:=Lib.hid n;clear n;have m:=Lib.hid (a0.out _ B.out);have P:w1.cell? ⟨w.heap.size,0,none⟩=some (.int .i64 0):=m.out.cell 0 _ rfl;have Q:w1.cell? ⟨w.heap.size,1,none⟩=some (.int .i64 0):=m.out.cell 1 _ rfl;have T:w1.frozen? ⟨w.heap.size,0,none⟩=false:=frozen_of_row _ _ _ _ _ m.out;have U:w1.frozen? ⟨w.heap.size,1,none⟩=false:=frozen_of_row _ _ _ _ _ m.out;have am:Hid (Below w.heap.size w w1):=ab o.out B.out;go_wp2;exact bodyPost_ret (v:= .agg #[.int .i64 (x:Int),.int .i64 (y:Int)]) (by simp[results,Tryz.results96,go_sem,P,Q,T,U]) rfl ⟨rfl,(am.out.setCell oS _).setCell oS _⟩
 |false=>
  have ac:Hid (∀W,af g W->Calls Tryz.prog 138 #[.int .i64 b,.pointer (some ⟨hb,0,none⟩),.pointer (some ⟨q,0,none⟩)] W λe w'=>e= .returned (.int .i64 ((aZ L false b:Nat):Int))/\Below W.heap.size W w'):=λW a=>(ik L b hb q W f C ((G.out.cZ (aO.below (ab o.out a))).H rfl)).mono (by rintro e w1 ⟨rfl,rfl⟩;exact⟨rfl,Below.refl _ _⟩);have ad:Hid (∀W,af g W->Calls Tryz.prog 138 #[.int .i64 d,.pointer (some ⟨hb,0,none⟩),.pointer (some ⟨q,0,none⟩)] W λe w'=>e= .returned (.int .i64 ((aZ L false d:Nat):Int))/\Below W.heap.size W w'):=λW a=>(ik L d hb q W f D ((G.out.cZ (aO.below (ab o.out a))).H rfl)).mono (by rintro e w1 ⟨rfl,rfl⟩;exact⟨rfl,Below.refl _ _⟩);have z:Hid (∀W,af g W->W.cell? ⟨E,0,none⟩=some (.func (Fn.func 138) #[] #[.pointer (some ⟨hb,0,none⟩),.pointer (some ⟨q,0,none⟩)])/\W.cell? ⟨lb,0,none⟩=some (.int .i64 l)/\W.cell? ⟨F,0,none⟩=some (.int .i64 i)):=by
   show∀W,_;intro W a;have h:=G.out.cZ (aO.below (ab o.out a));have al:=av.out.below (ab o.out a);refine⟨h.P.cell 0 _ rfl,?_,al.cell 0 _ rfl⟩;rw[A];exact h.Q.cell 0 _ rfl
  rw[ap.out];have bi:Hid (aZ L false b<=200/\aZ L false d<=200):=by
   have:=dU f C;have:=dU f D;have:=dF (c:=false) f
   show _/\_;omega
  generalize aZ L false b=x at*;generalize aZ L false d=y at*;clear N O J K M A V X Y Z a3 a4 a5 a6 C D n a1 a2 f;subst H;go_enter Tryz.func96,Tryz.ntmps96;go_wp2;refine du (S:=(λW=>af (w.alloc (.cells #[.int .i64 0,.int .i64 0] 47)) W)) 16 oK oK (ak (Below.refl _ _)) ?_;simp only[List.take_succ_cons,List.take_zero,List.drop_succ_cons,List.drop_zero]
  repeat refine kO z.out ?_
  refine kX (λW a=>ac.out W a) ?_
  repeat refine kO z.out ?_
  refine kX (λW a=>ad.out W a) ?_;refine eO ?_;intro w1 n;have B:=Lib.hid n;clear n;have m:=Lib.hid (a0.out _ B.out);have P:w1.cell? ⟨w.heap.size,0,none⟩=some (.int .i64 0):=m.out.cell 0 _ rfl;have Q:w1.cell? ⟨w.heap.size,1,none⟩=some (.int .i64 0):=m.out.cell 1 _ rfl;have T:w1.frozen? ⟨w.heap.size,0,none⟩=false:=frozen_of_row _ _ _ _ _ m.out;have U:w1.frozen? ⟨w.heap.size,1,none⟩=false:=frozen_of_row _ _ _ _ _ m.out;have am:Hid (Below w.heap.size w w1):=ab o.out B.out;go_wp2;exact bodyPost_ret (v:= .agg #[.int .i64 (x:Int),.int .i64 (y:Int)]) (by simp[results,Tryz.results96,go_sem,P,Q,T,U]) rfl ⟨rfl,(am.out.setCell oS _).setCell oS _⟩
theorem CR (L:Nat) (c:Bool) (E lb F hb q i j k:Nat) (w:World) (f:L<=32) (J:i<L) (K:j<rN L c i) (M:k<2) (N:lp L c E lb hb q w) (O:aa w F #[.int .i64 i] 3):
 Calls Tryz.prog 97 #[.int .i64 j,.int .i64 k,.pointer (some ⟨E,0,none⟩),.pointer (some ⟨lb,0,none⟩),.pointer (some ⟨F,0,none⟩)] w λe w'=>e= .returned (.agg #[.int .i64 (((bZ L c i 3 j k).1:Nat):Int),.int .i64 (((bZ L c i 3 j k).2:Nat):Int)])/\Below w.heap.size w w':=by
 obtain⟨n,a1⟩:=uQ (s:=0) f J K M;have a2:=(fX (c:=c) f).2;obtain⟨b,V⟩:∃b,b=2* i+k:=⟨_,rfl⟩;obtain⟨r,X⟩:∃r,r=2* i+j:=⟨_,rfl⟩;obtain⟨l,A⟩:∃l,l=ax L c-1:=⟨_,rfl⟩;obtain⟨t,Y⟩:∃t,t=l-b:=⟨_,rfl⟩;obtain⟨d,Z⟩:∃d,d=l-r:=⟨_,rfl⟩;obtain⟨p,a3⟩:∃p,p=2* i:=⟨_,rfl⟩;obtain⟨u,a4⟩:∃u,u=l-p:=⟨_,rfl⟩;have a7:IntKind.i64.wrap (2* (i:Int))=(p:Int):=by rw[aJ _ oO oO];omega
 have a8:IntKind.i64.wrap ((p:Int)+(k:Int))=(b:Int):=by rw[aJ _ oO oO];omega
 have a9:IntKind.i64.wrap ((p:Int)+(j:Int))=(r:Int):=by rw[aJ _ oO oO];omega
 have bb:IntKind.i64.wrap ((l:Int)-(p:Int))=(u:Int):=by rw[aJ _ oO oO];omega
 have bd:IntKind.i64.wrap ((u:Int)-(k:Int))=(t:Int):=by rw[aJ _ oO oO];omega
 have be:IntKind.i64.wrap ((u:Int)-(j:Int))=(d:Int):=by rw[aJ _ oO oO];omega
 have ap:Hid (bZ L c i 3 j k=(aZ L c d,aZ L c b)):=by
  show _=_;clear a7 a8 a9 bb bd be;subst Y Z A V X;rfl
 have C:b<ax L c:=oO;have a5:r<ax L c:=oO;have a6:t<ax L c:=oO;have D:d<ax L c:=oO;have bv:i<=32:=oO;have bx:j<=142:=oO;have b1:l<=142:=oO;have bf:b<=142/\r<=142/\t<=142/\d<=142:=oO;obtain⟨bo,bq,bs,bt⟩:=bf;have G:=Lib.hid N;have av:=Lib.hid O;obtain⟨g,H⟩:∃g,g=w.alloc (.cells #[.int .i64 0,.int .i64 0] 47):=⟨_,rfl⟩;have o:Hid (Below w.heap.size w g):=by show Below _ _ _;rw[H];exact ar _ _
 have a0:Hid (∀W,af g W->aa W w.heap.size #[.int .i64 0,.int .i64 0] 47):=λW a=>by
  have:aa g w.heap.size #[.int .i64 0,.int .i64 0] 47:=by rw[H];exact aa.new _ _ _ _ oS
  exact this.below a
 cases c with
 |true=>
  have ac:Hid (∀W,af g W->Calls Tryz.prog 137 #[.int .i64 d] W λe w'=>e= .returned (.int .i64 ((aZ L true d:Nat):Int))/\Below W.heap.size W w'):=λW a=>by rw[show aZ L true d=d from rfl];exact(ic d W).mono (by rintro e w1 ⟨rfl,rfl⟩;exact⟨rfl,Below.refl _ _⟩)
  have ad:Hid (∀W,af g W->Calls Tryz.prog 137 #[.int .i64 b] W λe w'=>e= .returned (.int .i64 ((aZ L true b:Nat):Int))/\Below W.heap.size W w'):=λW a=>by rw[show aZ L true b=b from rfl];exact(ic b W).mono (by rintro e w1 ⟨rfl,rfl⟩;exact⟨rfl,Below.refl _ _⟩)
  have z:Hid (∀W,af g W->W.cell? ⟨E,0,none⟩=some (.func (Fn.func 137) #[] #[])/\W.cell? ⟨lb,0,none⟩=some (.int .i64 l)/\W.cell? ⟨F,0,none⟩=some (.int .i64 i)):=by
   show∀W,_;intro W a;have h:=G.out.cZ (aO.below (ab o.out a));have al:=av.out.below (ab o.out a);refine⟨h.P.cell 0 _ rfl,?_,al.cell 0 _ rfl⟩;rw[A];exact h.Q.cell 0 _ rfl
  rw[ap.out];have bi:Hid (aZ L true d<=200/\aZ L true b<=200):=by
   have:=dU f D;have:=dU f C;have:=dF (c:=true) f
   show _/\_;omega
  generalize aZ L true d=x at*;generalize aZ L true b=y at*;clear N O J K M A V X Y Z a3 a4 C a5 a6 D n a1 a2 f;subst H;go_enter Tryz.func97,Tryz.ntmps97;go_wp2;refine du (S:=(λW=>af (w.alloc (.cells #[.int .i64 0,.int .i64 0] 47)) W)) 14 oK oK (ak (Below.refl _ _)) ?_;simp only[List.take_succ_cons,List.take_zero,List.drop_succ_cons,List.drop_zero]
  repeat refine kO z.out ?_
  refine kX (λW a=>ac.out W a) ?_
  repeat refine kO z.out ?_
  refine kX (λW a=>ad.out W a) ?_;refine eO ?_;intro w1 n;have B:=Lib.hid n;clear n;have m:=Lib.hid (a0.out _ B.out);have P:w1.cell? ⟨w.heap.size,0,none⟩=some (.int .i64 0):=m.out.cell 0 _ rfl;have Q:w1.cell? ⟨w.heap.size,1,none⟩=some (.int .i64 0):=m.out.cell 1 _ rfl;have T:w1.frozen? ⟨w.heap.size,0,none⟩=false:=frozen_of_row _ _ _ _ _ m.out;have U:w1.frozen? ⟨w.heap.size,1,none⟩=false:=frozen_of_row _ _ _ _ _ m.out;have am:Hid (Below w.heap.size w w1):=ab o.out B.out;go_wp2;exact bodyPost_ret (v:= .agg #[.int .i64 (x:Int),.int .i64 (y:Int)]) (by simp[results,Tryz.results97,go_sem,P,Q,T,U]) rfl ⟨rfl,(am.out.setCell oS _).setCell oS _⟩
 |false=>
  have ac:Hid (∀W,af g W->Calls Tryz.prog 138 #[.int .i64 d,.pointer (some ⟨hb,0,none⟩),.pointer (some ⟨q,0,none⟩)] W λe w'=>e= .returned (.int .i64 ((aZ L false d:Nat):Int))/\Below W.heap.size W w'):=λW a=>(ik L d hb q W f D ((G.out.cZ (aO.below (ab o.out a))).H rfl)).mono (by rintro e w1 ⟨rfl,rfl⟩;exact⟨rfl,Below.refl _ _⟩);have ad:Hid (∀W,af g W->Calls Tryz.prog 138 #[.int .i64 b,.pointer (some ⟨hb,0,none⟩),.pointer (some ⟨q,0,none⟩)] W λe w'=>e= .returned (.int .i64 ((aZ L false b:Nat):Int))/\Below W.heap.size W w'):=λW a=>(ik L b hb q W f C ((G.out.cZ (aO.below (ab o.out a))).H rfl)).mono (by rintro e w1 ⟨rfl,rfl⟩;exact⟨rfl,Below.refl _ _⟩);have z:Hid (∀W,af g W->W.cell? ⟨E,0,none⟩=some (.func (Fn.func 138) #[] #[.pointer (some ⟨hb,0,none⟩),.pointer (some ⟨q,0,none⟩)])/\W.cell? ⟨lb,0,none⟩=some (.int .i64 l)/\W.cell? ⟨F,0,none⟩=some (.int .i64 i)):=by
   show∀W,_;intro W a;have h:=G.out.cZ (aO.below (ab o.out a));have al:=av.out.below (ab o.out a);refine⟨h.P.cell 0 _ rfl,?_,al.cell 0 _ rfl⟩;rw[A];exact h.Q.cell 0 _ rfl
  rw[ap.out];have bi:Hid (aZ L false d<=200/\aZ L false b<=200):=by
   have:=dU f D;have:=dU f C;have:=dF (c:=false) f
   show _/\_;omega
  generalize aZ L false d=x at*;generalize aZ L false b=y at*;clear N O J K M A V X Y Z a3 a4 C a5 a6 D n a1 a2 f;subst H;go_enter Tryz.func97,Tryz.ntmps97;go_wp2;refine du (S:=(λW=>af (w.alloc (.cells #[.int .i64 0,.int .i64 0] 47)) W)) 14 oK oK (ak (Below.refl _ _)) ?_;simp only[List.take_succ_cons,List.take_zero,List.drop_succ_cons,List.drop_zero]
  repeat refine kO z.out ?_
  refine kX (λW a=>ac.out W a) ?_
  repeat refine kO z.out ?_
  refine kX (λW a=>ad.out W a) ?_;refine eO ?_;intro w1 n;have B:=Lib.hid n;clear n;have m:=Lib.hid (a0.out _ B.out);have P:w1.cell? ⟨w.heap.size,0,none⟩=some (.int .i64 0):=m.out.cell 0 _ rfl;have Q:w1.cell? ⟨w.heap.size,1,none⟩=some (.int .i64 0):=m.out.cell 1 _ rfl;have T:w1.frozen? ⟨w.heap.size,0,none⟩=false:=frozen_of_row _ _ _ _ _ m.out;have U:w1.frozen? ⟨w.heap.size,1,none⟩=false:=frozen_of_row _ _ _ _ _ m.out;have am:Hid (Below w.heap.size w w1):=ab o.out B.out;go_wp2;exact bodyPost_ret (v:= .agg #[.int .i64 (x:Int),.int .i64 (y:Int)]) (by simp[results,Tryz.results97,go_sem,P,Q,T,U]) rfl ⟨rfl,(am.out.setCell oS _).setCell oS _⟩
structure BP (n:Nat) (w wr:World) (a:Nat) (ps:List Pt):Prop where
 B:Below n w wr
 X:∃A c,aa wr a #[.slice A ps.length c] 40/\wr.ownsRow n 47 2 (.slice A ps.length c) ps.length (ps.flatMap eg)
 n1:n<=a
 n2:n<=wr.heap.size
theorem BP.below {n:Nat} {w wr W:World} {b:Nat} {ps:List Pt} (h:BP n w wr b ps) (a:Below wr.heap.size wr W):BP n w W b ps:=by
 obtain⟨A,c,d,e⟩:=h.X;exact⟨h.B.trans (a.mono h.n2),⟨A,c,d.below a,ah e a⟩,h.n1,Nat.le_trans h.n2 a.size⟩
theorem o4 {n:Nat} {w:World} {a q:Nat} {u:Value} {v:Value} {k:Nat} {xs:List Value} (b:aa w a #[u] 40) (c:w.ownsRow n 47 2 v k xs) (hq:v.ownBlock=some q):q≠a:=by
 rcases c.2 with⟨rfl,_⟩|⟨g,cap,d,rfl,_,hg,_⟩
 ·cases hq
 ·simp only[Value.ownBlock,Option.some.injEq]at hq;subst hq;intro e;subst e;unfold aa at b;rw[b]at hg;injection hg with hg;injection hg with _ e _;exact absurd e oD
theorem aO.grown {n:Nat} {w W:World} {v:Value} {k:Nat} {xs:List Value} (h:w.ownsRow n 47 2 v k xs) (hg:w.grownBy W v.ownBlock):aO w W:=by
 intro q c a hn;refine(hg.block q (aw a) ?_).trans a;intro e;rcases h.2 with⟨rfl,_⟩|⟨g,cap,d,rfl,_,b,_⟩
 ·cases e
 ·simp only[Value.ownBlock,Option.some.injEq]at e;subst e;rw[b]at a;injection a with a;subst a;exact absurd hn (by simp[notPts])
theorem aO.cY {w:World} {g i:Nat} {b:Array Value} (h:aa w g b 40) (u:Value):aO w (w.setCell ⟨g,i,none⟩ u):=by
 intro q c a hn;refine(Below.heap_setCell _ _ _ _ ?_).trans a;intro e;subst e;unfold aa at h;rw[h]at a;injection a with a;subst a;exact absurd hn (by simp[notPts])
theorem IU {n:Nat} {w:World} {b:Nat} {u:Value} {v:Value} {k:Nat} {xs:List Value} (c:aa w b #[u] 40) (a:w.ownsRow n 47 2 v k xs) (y:Value):(w.setCell ⟨b,0,none⟩ y).ownsRow n 47 2 v k xs:=by
 refine⟨a.1,?_⟩;rcases a.2 with d|⟨g,cap,e,e1,e2,e3,e4⟩
 ·exact .inl d
 ·refine .inr ⟨g,cap,e,e1,e2,(Below.heap_setCell _ _ _ _ ?_).trans e3,e4⟩;exact o4 c a (by rw[e1];rfl)
theorem lL {a:Act} {b:Oper} {W:World} {x q:Operand} (d:b.op= .store 40 q x) (p:Addr) (A:Option Addr) (n c:Nat) (hq:a.eval q= .pointer (some p)) (e:a.eval x= .slice A n c) {u:Value} (hc:W.cell? p=some u) (f:W.frozen? p=false):
 (execOp a.eval b).run Tryz.prog W= .ok .skip (W.setCell p (.slice A n c)):=by
 unfold execOp;simp only[d,hq,e,Instr.storeAt,Instr.sureAddr,Sem.run_bind,Sem.run_pure,Result.andThen_ok];go_simp
theorem fj {f:Array Oper} {S:World->Prop} {K:Act->World->Prop} {r:List (Bool×Nat×Oper)} {k:Nat} {d:Oper} {a:Act} {W:World} {base:Nat} {A:Option Addr} {e:Addr} {n c m g:Nat} {xs ys:List Pt} (o:W.ownsRow base 47 2 (.slice A n c) n (xs.flatMap eg)) (hb:base<=W.heap.size)
 (x:Region.wanted d (yielded f a.tmps)=true) (s y:Operand) (p:d.op= .call {callee:= .builtin .append,args:=#[s,y],argTypes:=#[40,40]}) (hs:a.eval s= .slice A n c) (q:a.eval y= .slice (some e) m g) (t:m=ys.length)
 (v:∀j u,(ys.flatMap eg)[j]?=some u->W.cell? (e.add j)=some u) (hl:n+m<=1000000)
 (w:∀A' c' b,b.ownsRow base 47 2 (.slice A' (n+m) c') (n+m) ((xs++ys).flatMap eg)->W.grownBy b (Value.slice A n c).ownBlock->S b/\bG Tryz.prog f S K r (a.put d.dst (.slice A' (n+m) c')) b):
 bG Tryz.prog f S K ((true,k,d)::r) a W:=by
 obtain⟨B,b,z,l,hg,-⟩:=tN d.type o hb e m g ys t v hl;obtain⟨A',c',rfl⟩:=bT l;have i:=w A' c' b l hg;refine ie x ?_ i.1 i.2;unfold execOp;simp only[p,resolve,invoke,builtin,Sem.run_bind,Sem.run_pure,Result.andThen_ok,List.map_toArray,List.map_cons,List.map_nil,hs,q,z]
theorem im (n:Nat) (w0 w:World) (d:Nat) (ps:List Pt) (J:Nat) (T:Array Value) (L i s r:Nat) (c:Bool) (h:BP n w0 w d ps) (hl:ps.length<=60000) (c3:r<=140) (c6:∀(args:Array Value) (W:World),(callFunc J args).run Tryz.prog W= .ok (.enter J args) W)
 (b2:∀W,aO w W->∀j,j<r->Calls Tryz.prog J (#[.int .i64 j,.int .i64 0]++T) W λe w'=>e= .returned (.agg #[.int .i64 (((bZ L c i s j 0).1:Nat):Int),.int .i64 (((bZ L c i s j 0).2:Nat):Int)])/\Below W.heap.size W w')
 (b3:∀W,aO w W->∀j,j<r->Calls Tryz.prog J (#[.int .i64 j,.int .i64 1]++T) W λe w'=>e= .returned (.agg #[.int .i64 (((bZ L c i s j 1).1:Nat):Int),.int .i64 (((bZ L c i s j 1).2:Nat):Int)])/\Below W.heap.size W w'):
 Calls Tryz.prog 93 #[.int .i64 r,.func (Fn.func J) #[] T,.pointer (some ⟨d,0,none⟩)] w λe w'=>e= .returned (.tuple #[])/\BP n w0 w' d (ps++jL L c i s r)/\aO w w':=by
 have bi:Hid (BP n w0 w d (ps++jL L c i s 0)/\aO w w):=by
  show _/\_;rw[show jL L c i s 0=[]from rfl,List.append_nil];exact⟨h,aO.refl _⟩
 have b9:=Lib.hid b2;have ca:=Lib.hid b3;clear h b2 b3;go_enter Tryz.func93,Tryz.ntmps93;go_wp2;go_loopw [7] (λa0 wr=>∃j:Nat,j<=r/\a0= .int .i64 j/\Hid (BP n w0 wr d (ps++jL L c i s j)/\aO w wr)) (λa0 _=>r-(intOf a0).toNat)
 case atStart=>exact⟨0,Nat.zero_le _,rfl,bi⟩
 case round=>
  clear bi;obtain⟨j,c4,rfl,E⟩:=hrel;by_cases bt:j<r
  ·obtain⟨A,D,bo,bq⟩:=E.out.1.X;have o:=Lib.hid bo;have p:=Lib.hid bq;have m:Hid (n<=d/\n<=wr.heap.size):=⟨E.out.1.n1,E.out.1.n2⟩;have V:=Lib.hid E.out.1.B;have a1:=Lib.hid E.out.2;have cb:Hid (ps++jL L c i s (j+1)=(ps++jL L c i s j)++[bZ L c i s j 0,bZ L c i s j 1]):=by
    show _=_;rw[vC,List.append_assoc];rfl
   have X:Hid ((ps++jL L c i s j).length<=70000):=by
    show _<=_;rw[List.length_append,nO];omega
   have bv:Hid (∀W,aO wr W->Calls Tryz.prog J (#[.int .i64 j,.int .i64 0]++T) W λe w'=>e= .returned (.agg #[.int .i64 (((bZ L c i s j 0).1:Nat):Int),.int .i64 (((bZ L c i s j 0).2:Nat):Int)])/\Below W.heap.size W w'):=λW P=>b9.out W (a1.out.trans P) j bt;have a4:Hid (∀W,aO wr W->Calls Tryz.prog J (#[.int .i64 j,.int .i64 1]++T) W λe w'=>e= .returned (.agg #[.int .i64 (((bZ L c i s j 1).1:Nat):Int),.int .i64 (((bZ L c i s j 1).2:Nat):Int)])/\Below W.heap.size W w'):=λW P=>ca.out W (a1.out.trans P) j bt;have c5:Hid (∀W,af wr W->W.cell? ⟨d,0,none⟩=some (.slice A (ps++jL L c i s j).length D)):=λW P=>(o.out.below P).cell 0 _ rfl;generalize bZ L c i s j 0=f at*;generalize bZ L c i s j 1=p1 at*;generalize ce:ps++jL L c i s j=a2 at*;generalize bx:a2.length=nl at*;have cg:=Lib.hid bx;clear ce bx bo bq E;go_wp2;have Q:Hid (af wr wr.drew):=ak (Below.refl _ _);have ad:Hid (∀g l a,Below n w0 a->a.ownsRow n 47 2 (.slice g (nl+2) l) (nl+2) ((a2++[f,p1]).flatMap eg)->aa a d #[.slice A nl D] 40->aO wr a->n<=a.heap.size->Hid (BP n w0 (a.setCell ⟨d,0,none⟩ (.slice g (nl+2) l)) d (ps++jL L c i s (j+1))/\aO w (a.setCell ⟨d,0,none⟩ (.slice g (nl+2) l)))):=by
    show∀_ _ _,_;intro g l a ch ci a5 ck co;have bs:(a2++[f,p1]).length=nl+2:=by rw[List.length_append,cg.out];rfl
    show BP _ _ _ _ _/\_;rw[cb.out];refine⟨⟨ch.setCell (by exact m.out.1) _,⟨g,l,?_,?_⟩,m.out.1,by simpa using co⟩,(a1.out.trans ck).trans (aO.cY a5 _)⟩
    ·rw[bs];exact a5.cY _
    ·rw[bs];exact IU a5 ci _
   refine so (S:=λ_=>True) (.br [(false,1),(false,2),(false,4),(false,5)] [0,3] (λk=>if k=0 then .last [(true,3),(true,6),(true,7),(true,8),(true,9)]else .br [] [0,6] (λk=>if k=0 then .last [(true,6),(true,7),(true,8),(true,9)]else .br [] [0,7] (λk=>if k=0 then .last [(true,7),(true,8),(true,9)]else .last [(true,0),(true,8),(true,9)])))) oK oK trivial ?_;simp only[reduceIte,Nat.reduceEqDiff,wpTree,attachW,List.getElem?_cons_zero,List.getElem?_cons_succ];refine zU ?_;refine zU ?_;refine zU ?_;refine zU ?_;refine ag ?_;intro k F;simp only[List.mem_cons,List.not_mem_nil,or_false]at F;rcases F with rfl|rfl
   ·simp only[reduceIte,Nat.reduceEqDiff,wpTree,attachW,List.getElem?_cons_zero,List.getElem?_cons_succ];refine' zQ (v:= .slice A nl D) (w':=wr.drew) rfl (by have a3:=(o.out.below Q.out).cell 0 _ rfl;go_simp) trivial ?_;refine ag ?_
    (try simp only[reduceIte,Nat.reduceEqDiff,wpTree,attachW,List.getElem?_cons_zero,List.getElem?_cons_succ])
    refine zZ ?_;refine(bv.out _ (aO.below Q.out)).mono ?_;rintro e cp ⟨rfl,hb⟩;have b4:Hid (af wr cp):=ab Q.out hb;clear hb;refine⟨_,rfl,trivial,jO ?_⟩;refine zZ ?_;refine(a4.out _ (aO.below b4.out)).mono ?_;rintro e Y ⟨rfl,hb⟩;have cq:Hid (af wr Y):=ab b4.out hb;clear hb;refine⟨_,rfl,trivial,jO ?_⟩;obtain⟨a6,al⟩:∃H,H=Y.alloc (.cells #[.int .i64 (f.1:Int),.int .i64 (f.2:Int),.int .i64 (p1.1:Int),.int .i64 (p1.2:Int)] 47):=⟨_,rfl⟩;have y:Hid (af wr a6):=by show Below _ _ _;rw[al];exact ae cq.out _
    obtain⟨b5,bb⟩:∃b,b=Y.heap.size:=⟨_,rfl⟩;have cr:Hid (∀j u,(([f,p1]:List Pt).flatMap eg)[j]?=some u->a6.cell? ((⟨b5,0,none⟩:Addr).add j)=some u):=by show∀_ _,_;rw[al,bb];exact cn Y [f,p1] _
    refine' zQ (v:= .slice (some ⟨b5,0,none⟩) 2 2) (w':=a6) rfl (by rw[al,bb];go_simp) trivial ?_;clear al bb;refine' fj (ys:=[f,p1]) (ah p.out y.out) (Nat.le_trans m.out.2 y.out.size) rfl _ _ rfl rfl rfl rfl cr.out (by have:=X.out;omega) ?_;intro g l a C hg;have K:=Lib.hid C;have t:Hid (aa a d #[.slice A nl D] 40):=(hg.block d (aw (o.out.below y.out)) (λe=>o4 (o.out.below y.out) (ah p.out y.out) e.symm rfl)).trans (o.out.below y.out);have M:Hid (aO wr a):=(aO.below y.out).trans (aO.grown (ah p.out y.out) hg);have N:Hid (Below n w0 a):=(V.out.trans (y.out.mono m.out.2)).grown hg (Nat.le_trans m.out.2 y.out.size) (λq hq=>((ah p.out y.out).lt q hq).1);have O:Hid (n<=a.heap.size):=Nat.le_trans m.out.2 (Nat.le_trans y.out.size hg.size);clear C hg;refine⟨trivial,?_⟩;simp only[yQ,yU,yX,yY];refine' bj (w':=a.setCell ⟨d,0,none⟩ (.slice g (nl+2) l)) rfl (lL rfl ⟨d,0,none⟩ g (nl+2) l rfl rfl (t.out.cell 0 _ rfl) (frozen_of_row _ _ _ _ _ t.out)) trivial ?_;simp only[yQ,yU,yX,yY];refine ag ?_;go_wp2;exact⟨⟨j+1,by omega,by go_num,ad.out g l a N.out K.out t.out M.out O.out⟩,by simp[intOf];omega⟩
   ·simp only[reduceIte,Nat.reduceEqDiff,wpTree,attachW,List.getElem?_cons_zero,List.getElem?_cons_succ];refine zZ ?_;refine(bv.out _ (aO.below Q.out)).mono ?_;rintro e b1 ⟨rfl,hb⟩;have U:Hid (af wr b1):=ab Q.out hb;clear hb;refine⟨_,rfl,trivial,jO ?_⟩;refine ag ?_
    (try simp only[reduceIte,Nat.reduceEqDiff,wpTree,attachW,List.getElem?_cons_zero,List.getElem?_cons_succ])
    refine ag ?_;intro k F;simp only[List.mem_cons,List.not_mem_nil,or_false]at F;rcases F with rfl|rfl
    ·simp only[reduceIte,Nat.reduceEqDiff,wpTree,attachW,List.getElem?_cons_zero,List.getElem?_cons_succ];refine' zQ (v:= .slice A nl D) (w':=b1) rfl (by have a3:=(o.out.below U.out).cell 0 _ rfl;go_simp) trivial ?_;refine ag ?_
     (try simp only[reduceIte,Nat.reduceEqDiff,wpTree,attachW,List.getElem?_cons_zero,List.getElem?_cons_succ])
     refine zZ ?_;refine(a4.out _ (aO.below U.out)).mono ?_;rintro e Z ⟨rfl,hb⟩;have cs:Hid (af wr Z):=ab U.out hb;clear hb;refine⟨_,rfl,trivial,jO ?_⟩;obtain⟨a7,am⟩:∃H,H=Z.alloc (.cells #[.int .i64 (f.1:Int),.int .i64 (f.2:Int),.int .i64 (p1.1:Int),.int .i64 (p1.2:Int)] 47):=⟨_,rfl⟩;have z:Hid (af wr a7):=by show Below _ _ _;rw[am];exact ae cs.out _
     obtain⟨b6,bd⟩:∃b,b=Z.heap.size:=⟨_,rfl⟩;have cv:Hid (∀j u,(([f,p1]:List Pt).flatMap eg)[j]?=some u->a7.cell? ((⟨b6,0,none⟩:Addr).add j)=some u):=by show∀_ _,_;rw[am,bd];exact cn Z [f,p1] _
     refine' zQ (v:= .slice (some ⟨b6,0,none⟩) 2 2) (w':=a7) rfl (by rw[am,bd];go_simp) trivial ?_;clear am bd;refine' fj (ys:=[f,p1]) (ah p.out z.out) (Nat.le_trans m.out.2 z.out.size) rfl _ _ rfl rfl rfl rfl cv.out (by have:=X.out;omega) ?_;intro g l a C hg;have K:=Lib.hid C;have t:Hid (aa a d #[.slice A nl D] 40):=(hg.block d (aw (o.out.below z.out)) (λe=>o4 (o.out.below z.out) (ah p.out z.out) e.symm rfl)).trans (o.out.below z.out);have M:Hid (aO wr a):=(aO.below z.out).trans (aO.grown (ah p.out z.out) hg);have N:Hid (Below n w0 a):=(V.out.trans (z.out.mono m.out.2)).grown hg (Nat.le_trans m.out.2 z.out.size) (λq hq=>((ah p.out z.out).lt q hq).1);have O:Hid (n<=a.heap.size):=Nat.le_trans m.out.2 (Nat.le_trans z.out.size hg.size);clear C hg;refine⟨trivial,?_⟩;simp only[yQ,yU,yX,yY];refine' bj (w':=a.setCell ⟨d,0,none⟩ (.slice g (nl+2) l)) rfl (lL rfl ⟨d,0,none⟩ g (nl+2) l rfl rfl (t.out.cell 0 _ rfl) (frozen_of_row _ _ _ _ _ t.out)) trivial ?_;simp only[yQ,yU,yX,yY];refine ag ?_;go_wp2;exact⟨⟨j+1,by omega,by go_num,ad.out g l a N.out K.out t.out M.out O.out⟩,by simp[intOf];omega⟩
    ·simp only[reduceIte,Nat.reduceEqDiff,wpTree,attachW,List.getElem?_cons_zero,List.getElem?_cons_succ];refine zZ ?_;refine(a4.out _ (aO.below U.out)).mono ?_;rintro e G ⟨rfl,hb⟩;have a9:Hid (af wr G):=ab U.out hb;clear hb;refine⟨_,rfl,trivial,jO ?_⟩;refine ag ?_
     (try simp only[reduceIte,Nat.reduceEqDiff,wpTree,attachW,List.getElem?_cons_zero,List.getElem?_cons_succ])
     refine ag ?_;intro k F;simp only[List.mem_cons,List.not_mem_nil,or_false]at F;rcases F with rfl|rfl
     ·simp only[reduceIte,Nat.reduceEqDiff,wpTree,attachW,List.getElem?_cons_zero,List.getElem?_cons_succ];refine' zQ (v:= .slice A nl D) (w':=G) rfl (by have a3:=(o.out.below a9.out).cell 0 _ rfl;go_simp) trivial ?_;refine ag ?_
      (try simp only[reduceIte,Nat.reduceEqDiff,wpTree,attachW,List.getElem?_cons_zero,List.getElem?_cons_succ])
      obtain⟨a8,ap⟩:∃H,H=G.alloc (.cells #[.int .i64 (f.1:Int),.int .i64 (f.2:Int),.int .i64 (p1.1:Int),.int .i64 (p1.2:Int)] 47):=⟨_,rfl⟩;have B:Hid (af wr a8):=by show Below _ _ _;rw[ap];exact ae a9.out _
      obtain⟨b7,be⟩:∃b,b=G.heap.size:=⟨_,rfl⟩;have cx:Hid (∀j u,(([f,p1]:List Pt).flatMap eg)[j]?=some u->a8.cell? ((⟨b7,0,none⟩:Addr).add j)=some u):=by show∀_ _,_;rw[ap,be];exact cn G [f,p1] _
      refine' zQ (v:= .slice (some ⟨b7,0,none⟩) 2 2) (w':=a8) rfl (by rw[ap,be];go_simp) trivial ?_;clear ap be;refine' fj (ys:=[f,p1]) (ah p.out B.out) (Nat.le_trans m.out.2 B.out.size) rfl _ _ rfl rfl rfl rfl cx.out (by have:=X.out;omega) ?_;intro g l a C hg;have K:=Lib.hid C;have t:Hid (aa a d #[.slice A nl D] 40):=(hg.block d (aw (o.out.below B.out)) (λe=>o4 (o.out.below B.out) (ah p.out B.out) e.symm rfl)).trans (o.out.below B.out);have M:Hid (aO wr a):=(aO.below B.out).trans (aO.grown (ah p.out B.out) hg);have N:Hid (Below n w0 a):=(V.out.trans (B.out.mono m.out.2)).grown hg (Nat.le_trans m.out.2 B.out.size) (λq hq=>((ah p.out B.out).lt q hq).1);have O:Hid (n<=a.heap.size):=Nat.le_trans m.out.2 (Nat.le_trans B.out.size hg.size);clear C hg;refine⟨trivial,?_⟩;simp only[yQ,yU,yX,yY];refine' bj (w':=a.setCell ⟨d,0,none⟩ (.slice g (nl+2) l)) rfl (lL rfl ⟨d,0,none⟩ g (nl+2) l rfl rfl (t.out.cell 0 _ rfl) (frozen_of_row _ _ _ _ _ t.out)) trivial ?_;simp only[yQ,yU,yX,yY];refine ag ?_;go_wp2;exact⟨⟨j+1,by omega,by go_num,ad.out g l a N.out K.out t.out M.out O.out⟩,by simp[intOf];omega⟩
     ·simp only[reduceIte,Nat.reduceEqDiff,wpTree,attachW,List.getElem?_cons_zero,List.getElem?_cons_succ];obtain⟨ac,av⟩:∃H,H=G.alloc (.cells #[.int .i64 (f.1:Int),.int .i64 (f.2:Int),.int .i64 (p1.1:Int),.int .i64 (p1.2:Int)] 47):=⟨_,rfl⟩;have x:Hid (af wr ac):=by show Below _ _ _;rw[av];exact ae a9.out _
      obtain⟨b8,bf⟩:∃b,b=G.heap.size:=⟨_,rfl⟩;have c2:Hid (∀j u,(([f,p1]:List Pt).flatMap eg)[j]?=some u->ac.cell? ((⟨b8,0,none⟩:Addr).add j)=some u):=by show∀_ _,_;rw[av,bf];exact cn G [f,p1] _
      refine' zQ (v:= .slice (some ⟨b8,0,none⟩) 2 2) (w':=ac) rfl (by rw[av,bf];go_simp) trivial ?_;clear av bf;refine ag ?_
      (try simp only[reduceIte,Nat.reduceEqDiff,wpTree,attachW,List.getElem?_cons_zero,List.getElem?_cons_succ])
      refine' zQ (v:= .slice A nl D) (w':=ac) rfl (by have a3:=(o.out.below x.out).cell 0 _ rfl;go_simp) trivial ?_;refine' fj (ys:=[f,p1]) (ah p.out x.out) (Nat.le_trans m.out.2 x.out.size) rfl _ _ rfl rfl rfl rfl c2.out (by have:=X.out;omega) ?_;intro g l a C hg;have K:=Lib.hid C;have t:Hid (aa a d #[.slice A nl D] 40):=(hg.block d (aw (o.out.below x.out)) (λe=>o4 (o.out.below x.out) (ah p.out x.out) e.symm rfl)).trans (o.out.below x.out);have M:Hid (aO wr a):=(aO.below x.out).trans (aO.grown (ah p.out x.out) hg);have N:Hid (Below n w0 a):=(V.out.trans (x.out.mono m.out.2)).grown hg (Nat.le_trans m.out.2 x.out.size) (λq hq=>((ah p.out x.out).lt q hq).1);have O:Hid (n<=a.heap.size):=Nat.le_trans m.out.2 (Nat.le_trans x.out.size hg.size);clear C hg;refine⟨trivial,?_⟩;simp only[yQ,yU,yX,yY];refine' bj (w':=a.setCell ⟨d,0,none⟩ (.slice g (nl+2) l)) rfl (lL rfl ⟨d,0,none⟩ g (nl+2) l rfl rfl (t.out.cell 0 _ rfl) (frozen_of_row _ _ _ _ _ t.out)) trivial ?_;simp only[yQ,yU,yX,yY];refine ag ?_;go_wp2;exact⟨⟨j+1,by omega,by go_num,ad.out g l a N.out K.out t.out M.out O.out⟩,by simp[intOf];omega⟩
  ·obtain rfl:j=r:=oO;go_wp2;refine bodyPost_end (results_none rfl _ _ _) rfl ?_;exact⟨rfl,E.out.1,E.out.2⟩
end
end Go.Proofs.YtmnlkganmgcpbaaGreatDoor
