import Derived.Test.YtmnlkganmgcpbaaGreatDoorQi12
set_option maxRecDepth 100000
set_option maxHeartbeats 4000000
set_option linter.unusedVariables false
set_option linter.unusedSectionVars false
set_option linter.unusedSimpArgs false
set_option linter.defProp false
open Go.Value renaming int->I
open Go.IntKind renaming i64->J
open Bool renaming false->R,true->wP,and_eq_true->Az
open Option renaming none->U,some->gk
open Go renaming World->wR,Calls->wS
open Go.Proofs.Tryz renaming prog->w1,ntmps166->Vv,ntmps149->Vw,func166->VH,func149->VI
open Go.RowKit renaming Hid->w2,Below->y5,wrap64->UN
open Go.RowKit.Below renaming refl->w3,heap_alloc->y8
open _root_ renaming beq_eq_false_iff_ne->w4,if_neg->w6,if_pos->xl,beq_iff_eq->HX,ne_of_beq_false->IH,if_true->Qk,beq_false_of_ne->R3,decide_eq_true_iff->Uj,decide_eq_false_iff_not->Vl,bne_iff_ne->Vq
open Nat renaming le_refl->w5,zero_le->x1,le_trans->x3,lt_or_ge->z6,pow_le_pow_right->C3,pow_succ->H0
open List renaming getElem?_eq_getElem->yv,getElem_mem->C4,all_eq_false->UZ
open Int renaming toNat_natCast->As,eq_ofNat_of_zero_le->Av,natCast_emod->VN
open Go.Lib renaming hid->A7
open Go.World renaming cell?_of_block->Ur
open Go.Proofs.Tryz
namespace Go.Proofs.YtmnlkganmgcpbaaGreatDoor
section
open Go.RowKit
theorem LF {a:Program} {f:FuncId} {args:Array Value} {w:wR} {n:Nat} {v:Value}
 (h:wS a f args (w.drewN n) λe c=>e= .returned v/\w.drewN n=c):
 wS a f args (w.drewN n) λe d=>e= .returned v/\∃m,d=w.drewN m:=
 h.mono λ_ _ b=>⟨b.1,n,b.2.symm⟩
theorem cS {B:Nat} {a w:wR} (h:y5 B a w) (n:Nat):y5 B a (w.drewN n):=⟨h.os,h.tape,h.output,h.size,h.block⟩
def bp (c s a:Int):Bool:=
 if a=0 then decide (2<s)&&decide (s<=4096)&&decide (c=s)&&jf s.toNat
 else decide (2<=a)&&decide (bl a.toNat<=13)&&decide (c=2)&&decide (s=((2^(bl a.toNat-1):Nat):Int))&&nA a.toNat
abbrev aU (c s a:Int):Value:= .agg #[I J c,I J s,I J a]
theorem NV (c s:Int) (w:wR) (h:¬2<s):
 wS w1 149 #[aU c s 0] w λe b=>e= .returned (.bool (bp c s 0))/\y5 w.heap.size w b:=by
 have a:bp c s 0=R:=by unfold bp;simp;omega
 have d:=A7 a;clear a;go_enter VI,Vw;go_wp2;go_ret;exact⟨bh d.out.symm,(w3 _ _).alloc (w5 _) _⟩
theorem N0 (c s:Int) (w:wR) (h:2<s) (g:s<=4096) (d:c=s):
 wS w1 149 #[aU c s 0] w λe a=>e= .returned (.bool (bp c s 0))/\y5 w.heap.size w a:=by
 have b:bp c s 0=jf s.toNat:=by unfold bp;simp;omega
 have f:=A7 b;clear b;subst d;go_enter VI,Vw;go_wp2_with(go_at_call 187;refine(MP _ _ oO oO).mono ?_;rintro e a ⟨rfl,rfl⟩)
 go_ret;exact⟨bh f.out.symm,(w3 _ _).alloc (w5 _) _⟩
theorem OX (c s:Int) (w:wR) (h:2<s) (f:4096<s):
 wS w1 149 #[aU c s 0] w λe b=>e= .returned (.bool (bp c s 0))/\y5 w.heap.size w b:=by
 have a:bp c s 0=R:=by unfold bp;simp;omega
 have d:=A7 a;clear a;go_enter VI,Vw;go_wp2;go_ret;exact⟨bh d.out.symm,(w3 _ _).alloc (w5 _) _⟩
theorem OH (c s:Int) (w:wR) (h:2<s) (g:s<=4096) (b:(c==s)=R):
 wS w1 149 #[aU c s 0] w λe d=>e= .returned (.bool (bp c s 0))/\y5 w.heap.size w d:=by
 have a:bp c s 0=R:=by unfold bp;have:=IH b;simp[this]
 have f:=A7 a;clear a;go_enter VI,Vw;go_wp2;go_ret;exact⟨bh f.out.symm,(w3 _ _).alloc (w5 _) _⟩
theorem QX (c s:Int) (w:wR):
 wS w1 149 #[aU c s 0] w λe d=>e= .returned (.bool (bp c s 0))/\y5 w.heap.size w d:=by
 by_cases h:2<s
 ·by_cases a:s<=4096
  ·by_cases b:c=s
   ·exact N0 c s w h a b
   ·exact OH c s w h a (R3 b)
  ·exact OX c s w h oO
 ·exact NV c s w h
theorem NN (c s a:Int) (w:wR) (g:(a==0)=R) (h:a<2):
 wS w1 149 #[aU c s a] w λe d=>e= .returned (.bool (bp c s a))/\y5 w.heap.size w d:=by
 have b:bp c s a=R:=by unfold bp;have:=IH g;rw[w6 this];simp;omega
 have f:=A7 b;clear b;go_enter VI,Vw;go_wp2;go_ret;exact⟨bh f.out.symm,(w3 _ _).alloc (w5 _) _⟩
theorem NM (c s a:Int) (w:wR) (g:(a==0)=R) (h:2<=a) (i:a<=9223372036854775807) (j:13<bl a.toNat):
 wS w1 149 #[aU c s a] w λe b=>e= .returned (.bool (bp c s a))/\y5 w.heap.size w b:=by
 have d:bp c s a=R:=by unfold bp;have:=IH g;rw[w6 this];simp;omega
 have f:=A7 d;clear d;go_enter VI,Vw;go_wp2_with(go_at_call 188;refine(jT _ _ oO oO).mono ?_;rintro e b ⟨rfl,rfl⟩)
 go_ret;exact⟨bh f.out.symm,(w3 _ _).alloc (w5 _) _⟩
abbrev PA (a:Int):Int:=J.wrap (2^(bl a.toNat-1))
theorem FE (a:Int) (b:bl a.toNat<=13):PA a=((2^(bl a.toNat-1):Nat):Int):=by
 show J.wrap (2^(bl a.toNat-1))=_;have h:=C3 (n:=2) oO (show bl a.toNat-1<=12 by omega);rw[show((2:Int)^(bl a.toNat-1))=((2^(bl a.toNat-1):Nat):Int)from by simp];generalize 2^(bl a.toNat-1)=N at*;rw[IntKind.wrap_i64];omega
theorem OJ (c s a:Int) (w:wR) (f:(a==0)=R) (h:2<=a) (l:a<=9223372036854775807) (d:bl a.toNat<=13) (hb:2<=bl a.toNat)
 (i:(c==2)=R):
 wS w1 149 #[aU c s a] w λe b=>e= .returned (.bool (bp c s a))/\y5 w.heap.size w b:=by
 have g:bp c s a=R:=by unfold bp;have:=IH f;rw[w6 this];have:=IH i;simp[this]
 exact NI
theorem N9 (s z a:Int) (w:wR) (f:(a==0)=R) (h:2<=a) (l:a<=9223372036854775807) (d:bl a.toNat<=13) (hb:2<=bl a.toNat)
 (j:J.wrap (2^(bl a.toNat-1))=z) (i:(s==z)=R):
 wS w1 149 #[aU 2 s a] w λe b=>e= .returned (.bool (bp 2 s a))/\y5 w.heap.size w b:=by
 have g:bp 2 s a=R:=by
  unfold bp;have:=IH f;rw[w6 this];rw[<-FE a d]
  have n:¬s=PA a:=by rw[show PA a=z from j];exact IH i
  simp[n]
 exact NI
theorem NO (s a:Int) (w:wR) (f:(a==0)=R) (h:2<=a) (l:a<=9223372036854775807) (d:bl a.toNat<=13) (hb:2<=bl a.toNat)
 (j:J.wrap (2^(bl a.toNat-1))=s):
 wS w1 149 #[aU 2 s a] w λe b=>e= .returned (.bool (bp 2 s a))/\y5 w.heap.size w b:=by
 have g:bp 2 s a=nA a.toNat:=by
  rw[<-show PA a=s from j];unfold bp;have:=IH f;rw[w6 this];rw[<-FE a d]
  simp[h,d]
 exact NI
theorem ry (a:Int) (h:2<=a):2<=bl a.toNat:=by
 have b:=sJ 2 a.toNat oO;have e:bl 2=2:=by decide
 omega
theorem kq (c s a:Int) (w:wR) (d:a<=9223372036854775807):
 wS w1 149 #[aU c s a] w λe k=>e= .returned (.bool (bp c s a))/\y5 w.heap.size w k:=by
 by_cases j:a=0
 ·subst j;exact QX c s w
 have b:=R3 j;by_cases h:2<=a
 ·have hb:=ry a h;by_cases f:bl a.toNat<=13
  ·by_cases g:c=2
   ·subst g;by_cases i:s=J.wrap (2^(bl a.toNat-1))
    ·exact NO s a w b h d f hb i.symm
    ·exact N9 s _ a w b h d f hb rfl (R3 i)
   ·exact OJ c s a w b h d f hb (R3 g)
  ·exact NM c s a w b h d oO
 ·exact NN c s a w b oO
theorem yR (n:Nat):bl (2^n)=n+1:=wN _ _ (w5 _) (by rw[H0];have:=Nat.two_pow_pos n;omega)
theorem oB (s a:Int):bp 2 s a=(decide (2<=bl s.toNat)&&decide (bl s.toNat<=13)&&decide (s=((2^(bl s.toNat-1):Nat):Int))&&iF a ((bl s.toNat:Int)-1)):=by
 unfold bp iF;by_cases g:a=0
 ·subst g;rw[xl rfl];have i:bl (0:Int).toNat=0:=rfl;rw[i];by_cases e:2<=bl s.toNat
  ·have c:¬((0:Nat):Int)=(bl s.toNat:Int)-1+1:=oO;rw[decide_eq_false c];have f:¬(2<s/\(2:Int)=s):=oO;by_cases d:2<s
   ·have b:¬(2:Int)=s:=oO;simp[b]
   ·simp[d]
  ·have b:¬2<s:=by
    intro h;have:=ry s oO;omega
   simp[e,b]
 ·rw[w6 g,Bool.eq_iff_iff];simp only[Az,Uj];constructor
  ·rintro⟨⟨⟨⟨e,c⟩,-⟩,d⟩,b⟩;have hb:=ry a e;have hs:bl s.toNat=bl a.toNat:=by
    rw[d,As,yR];omega
   rw[hs];exact⟨⟨⟨hb,c⟩,d⟩,⟨by omega,by omega⟩,b⟩
  ·rintro⟨⟨⟨e,c⟩,f⟩,⟨d,b⟩,j⟩;have hs:bl a.toNat=bl s.toNat:=oO;rw[hs];have k:2<=a:=by
    have:=Lz a.toNat oO;rw[hs]at this;have l:2^1<=2^(bl s.toNat-1):=C3 oO oO;omega
   exact⟨⟨⟨⟨k,c⟩,trivial⟩,f⟩,j⟩
theorem MF (s a:Int) (w:wR) (hs:s<=9223372036854775807) (h:bl s.toNat<2):
 wS w1 166 #[aU 2 s a] w λe b=>e= .returned (.bool (bp 2 s a))/\y5 w.heap.size w b:=by
 have c:bp 2 s a=R:=by rw[oB];simp;omega
 exact I9
theorem Mp (s a:Int) (w:wR) (hs:s<=9223372036854775807) (h:13<bl s.toNat):
 wS w1 166 #[aU 2 s a] w λe b=>e= .returned (.bool (bp 2 s a))/\y5 w.heap.size w b:=by
 have c:bp 2 s a=R:=by rw[oB];simp;omega
 exact I9
theorem Im (s:Int) (a:bl s.toNat<=13):J.wrap (2^(bl s.toNat-1))=((2^(bl s.toNat-1):Nat):Int):=FE s a
theorem Mk (s z a:Int) (w:wR) (hs:s<=9223372036854775807) (h:2<=bl s.toNat) (d:bl s.toNat<=13)
 (g:UN (2^(bl s.toNat-1))=z) (i:(s==z)=R):
 wS w1 166 #[aU 2 s a] w λe b=>e= .returned (.bool (bp 2 s a))/\y5 w.heap.size w b:=by
 have c:bp 2 s a=R:=by
  rw[oB,<-Im s d,IntWalk.i64_left,g];have k:¬s=z:=IH i;simp[k]
 exact I9
theorem Nh (n:Nat) (h:n<=13):UN (2^n)=((2^n:Nat):Int):=by
 have h:=C3 (n:=2) oO h;rw[show((2:Int)^n)=((2^n:Nat):Int)from by simp];generalize 2^n=N at*;exact IntWalk.wrap64_in _ oO
theorem KO (s z a:Int) (w:wR) (hs:s<=9223372036854775807) (h:2<=bl s.toNat) (d:bl s.toNat<=13)
 (g:UN (2^(bl s.toNat-1))=s) (m:UN (2^(bl s.toNat))=z) (i:z<=a):
 wS w1 166 #[aU 2 s a] w λe b=>e= .returned (.bool (bp 2 s a))/\y5 w.heap.size w b:=by
 have c:bp 2 s a=R:=by
  rw[oB];rw[Nh _ d]at m;have l:¬(bl a.toNat:Int)=(bl s.toNat:Int)-1+1:=by
   intro e;have:=(bc a.toNat (bl s.toNat)).1 oO;omega
  unfold iF;rw[decide_eq_false l];simp
 exact I9
theorem MR (s z a:Int) (w:wR) (hs:s<=9223372036854775807) (j:a<=9223372036854775807) (h:2<=bl s.toNat) (c:bl s.toNat<=13)
 (d:UN (2^(bl s.toNat-1))=s) (k:UN (2^(bl s.toNat))=z) (i:a<z):
 wS w1 166 #[aU 2 s a] w λe b=>e= .returned (.bool (bp 2 s a))/\y5 w.heap.size w b:=by
 have f:bp 2 s a=iF a ((bl s.toNat:Int)-1):=by
  rw[oB];rw[IntWalk.i64_left ..|>.symm,Im s c]at d;simp[h,c,d]
 have g:=A7 f;clear f;go_enter VH,Vv;go_wp2_with(first|(go_at_call 207;refine(iZ _ _ oO).mono ?_;rintro e b ⟨rfl,rfl⟩)|(go_at_call 175;refine(FD _ _ _ oO oO oO).mono ?_;rintro e b ⟨rfl,rfl⟩))
 go_ret;exact⟨bh g.out.symm,(w3 _ _).alloc (w5 _) _⟩
theorem M4 (s a:Int) (w:wR) (hs:s<=9223372036854775807) (g:a<=9223372036854775807):
 wS w1 166 #[aU 2 s a] w λe d=>e= .returned (.bool (bp 2 s a))/\y5 w.heap.size w d:=by
 by_cases h:2<=bl s.toNat
 ·by_cases b:bl s.toNat<=13
  ·by_cases c:s=UN (2^(bl s.toNat-1))
   ·by_cases f:a<UN (2^(bl s.toNat))
    ·exact MR s _ a w hs g h b c.symm rfl f
    ·exact KO s _ a w hs h b c.symm rfl oO
   ·exact Mk s _ a w hs h b rfl (R3 c)
  ·exact Mp s a w hs oO
 ·exact MF s a w hs oO
theorem qO (c s a:Int) (hc:c≠2):bp c s a=(decide (c=s)&&decide (a=0)&&decide (3<=s)&&decide (s<=4096)&&jf s.toNat):=by
 unfold bp;by_cases f:a=0
 ·subst f;rw[xl rfl,Bool.eq_iff_iff];simp only[Az,Uj];constructor
  ·rintro⟨⟨⟨g,b⟩,d⟩,e⟩;exact⟨⟨⟨⟨d,trivial⟩,by omega⟩,b⟩,e⟩
  ·rintro⟨⟨⟨⟨d,-⟩,g⟩,b⟩,e⟩;exact⟨⟨⟨by omega,b⟩,d⟩,e⟩
 ·rw[w6 f];simp[f,hc]
theorem KT (c s a:Int) (w:wR) (hc:(c==2)=R) (h:(c==s)=R):
 wS w1 166 #[aU c s a] w λe d=>e= .returned (.bool (bp c s a))/\y5 w.heap.size w d:=by
 have b:bp c s a=R:=by rw[qO c s a (IH hc)];have:=IH h;simp[this]
 have f:=A7 b;clear b;go_enter VH,Vv;go_wp2;go_ret;exact⟨bh f.out.symm,(w3 _ _).alloc (w5 _) _⟩
theorem La (s a:Int) (w:wR) (hc:(s==2)=R) (h:(a==0)=R):
 wS w1 166 #[aU s s a] w λe c=>e= .returned (.bool (bp s s a))/\y5 w.heap.size w c:=by
 have b:bp s s a=R:=by rw[qO s s a (IH hc)];have:=IH h;simp[this]
 have d:=A7 b;clear b;go_enter VH,Vv;go_wp2;go_ret;exact⟨bh d.out.symm,(w3 _ _).alloc (w5 _) _⟩
theorem Mv (s:Int) (w:wR) (hc:(s==2)=R) (h:s<3):
 wS w1 166 #[aU s s 0] w λe b=>e= .returned (.bool (bp s s 0))/\y5 w.heap.size w b:=by
 have a:bp s s 0=R:=by rw[qO s s 0 (IH hc)];simp;omega
 have c:=A7 a;clear a;go_enter VH,Vv;go_wp2;go_ret;exact⟨bh c.out.symm,(w3 _ _).alloc (w5 _) _⟩
theorem KN (s:Int) (w:wR) (hc:(s==2)=R) (h:4096<s):
 wS w1 166 #[aU s s 0] w λe b=>e= .returned (.bool (bp s s 0))/\y5 w.heap.size w b:=by
 have a:bp s s 0=R:=by rw[qO s s 0 (IH hc)];simp;omega
 have c:=A7 a;clear a;go_enter VH,Vv;go_wp2;go_ret;exact⟨bh c.out.symm,(w3 _ _).alloc (w5 _) _⟩
theorem Lm (s:Int) (w:wR) (hc:(s==2)=R) (h:3<=s) (c:s<=4096):
 wS w1 166 #[aU s s 0] w λe a=>e= .returned (.bool (bp s s 0))/\y5 w.heap.size w a:=by
 have b:bp s s 0=jf s.toNat:=by rw[qO s s 0 (IH hc)];simp[h,c]
 have d:=A7 b;clear b;go_enter VH,Vv;go_wp2_with(first|(go_at_call 208;refine(J6 _ _ oO oO).mono ?_;rintro e a ⟨rfl,rfl⟩))
 go_ret;exact⟨bh d.out.symm,(w3 _ _).alloc (w5 _) _⟩
theorem J3 (c s a:Int) (w:wR) (hs:s<=9223372036854775807) (i:a<=9223372036854775807):
 wS w1 166 #[aU c s a] w λe d=>e= .returned (.bool (bp c s a))/\y5 w.heap.size w d:=by
 by_cases hc:c=2
 ·subst hc;exact M4 s a w hs i
 ·by_cases h:c=s
  ·subst h;by_cases b:a=0
   ·subst b;by_cases f:3<=c
    ·by_cases g:c<=4096
     ·exact Lm c w (R3 hc) f g
     ·exact KN c w (R3 hc) oO
    ·exact Mv c w (R3 hc) oO
   ·exact La c a w (R3 hc) (R3 b)
  ·exact KT c s a w (R3 hc) (R3 h)
theorem PI {W c:wR} (hb:y5 W.heap.size W c):(∀b a,b<W.heap.size->c.cell? ⟨b,a,U⟩=W.cell? ⟨b,a,U⟩)/\(∀b a,b<W.heap.size->c.frozen? ⟨b,a,U⟩=W.frozen? ⟨b,a,U⟩):=
 ⟨λ_ _ h=>hb.cell h,λ_ _ h=>hb.frozen h⟩
def iQ (s:Int) (b:List Int):Bool:=b.all λa=>decide (0<=a)&&decide (a<s)
theorem LL (c s a:Int) (d:Value) (w:wR) (j:a<=9223372036854775807) (b:bp c s a=R):
 wS w1 157 #[aU c s a,d] w λe f=>e= .returned (.bool R)/\y5 w.heap.size w f:=by
 have g:=A7 b;clear b;go_enter func157,ntmps157;go_wp2_with(go_at_call 149;refine(kq _ _ _ _ oO).mono ?_;rintro e k ⟨rfl,i⟩;rw[g.out])
 go_ret;exact⟨rfl,((w3 _ _).alloc (w5 _) _).trans (i.mono oS)⟩
theorem M3 (c s a:Int) (w:wR) (j:a<=9223372036854775807) (b:bp c s a=wP):
 wS w1 157 #[aU c s a,.slice U 0 0] w λe f=>e= .returned (.bool wP)/\y5 w.heap.size w f:=by
 have g:=A7 b;clear b;go_enter func157,ntmps157;go_wp2_with(go_at_call 149;refine(kq _ _ _ _ oO).mono ?_;rintro e k ⟨rfl,i⟩;rw[g.out])
 go_loop [6,12] (λ_ d=>d=I J 0) (λ_ _=>0)
 case atStart=>rfl
 case round=>
  subst hrel;go_wp2;go_ret;exact⟨rfl,((w3 _ _).alloc (w5 _) _).trans (i.mono oS)⟩
theorem QK (c s o:Int) (d:List Int) (b:Nat) (w:wR) (N:o<=9223372036854775807) (z:bp c s o=wP)
 (hn:d.length<=1000) (L:b<w.heap.size) (C:∀f,f<d.length->w.cell? ⟨b,f,U⟩=gk (I J (d.getD f 0))):
 wS w1 157 #[aU c s o,.slice (gk ⟨b,0,U⟩) d.length d.length] w λe E=>e= .returned (.bool (iQ s d))/\y5 w.heap.size w E:=by
 have F:=A7 z;clear z;have HC:=A7 C;clear C;generalize A:d.length=n at*;have p:=A7 A;clear A;go_enter func157,ntmps157;go_wp2_with(go_at_call 149;refine(kq _ _ _ _ oO).mono ?_;rintro e q ⟨rfl,t⟩;rw[F.out])
 obtain⟨u,-⟩:=PI t;have S:q.cell? ⟨w.heap.size,1,U⟩=gk (I J s):=by
  rw[u _ _ oS];go_simp
 have D:∀f,f<n->q.cell? ⟨b,f,U⟩=gk (I J (d.getD f 0)):=by
  intro f G;rw[u _ _ oT,<-HC.out f G];exact Ur (y8 _ _ _ L)
 have H:=A7 D;clear D HC u;have y:w2 (y5 w.heap.size w q):=((w3 _ _).alloc (w5 _) _).trans (t.mono oS);clear t;go_loop [6,12] (λ_ f=>∃k:Nat,k<=n/\f=I J k/\w2 (∀g,g<k->0<=d.getD g 0/\d.getD g 0<s)) (λ_ f=>n-(intOf f).toNat)
 case atStart=>exact⟨0,x1 _,rfl,λg m=>by omega⟩
 case round=>
  obtain⟨k,O,rfl,hid⟩:=hrel;by_cases v:k<n
  ·have T:=H.out k v;generalize B:d.getD k 0=x at*;have r:=A7 B;clear B;by_cases P:x<0
   ·have i:iQ s d=R:=by
     unfold iQ;rw[UZ];have l:k<d.length:=by rw[p.out];exact v
     refine⟨d[k],C4 l,?_⟩;have:d[k]=x:=by rw[<-r.out];simp[yv l]
     rw[this];simp;omega
    have j:=A7 i;clear i;go_wp2;go_ret;exact⟨bh j.out.symm,y.out⟩
   ·by_cases Q:s<=x
    ·have i:iQ s d=R:=by
      unfold iQ;rw[UZ];have l:k<d.length:=by rw[p.out];exact v
      refine⟨d[k],C4 l,?_⟩;have:d[k]=x:=by rw[<-r.out];simp[yv l]
      rw[this];simp;omega
     have j:=A7 i;clear i;go_wp2;go_ret;exact⟨bh j.out.symm,y.out⟩
    ·go_wp2;refine⟨⟨k+1,by omega,by go_num,?_⟩,by simp[intOf];omega⟩;intro g m;by_cases M:g=k
     ·subst M;rw[r.out];omega
     ·exact hid.out g oO
  ·have i:iQ s d=wP:=by
    unfold iQ;rw[List.all_eq_true];intro a K;obtain⟨g,m,rfl⟩:=List.getElem_of_mem K;have:=hid.out g (by rw[p.out]at m;omega);rw[List.getD_eq_getElem?_getD,yv m]at this;simpa using this
   have j:=A7 i;clear i;obtain rfl:k=n:=oO;go_wp2;go_ret;exact⟨bh j.out.symm,y.out⟩
theorem re (d a A B S cK:Nat) (j:bl a=d+1) (k:bl A<=d) (hB:bl B<=d) (e:bl S<=d) (hid:S^^^cmod (cj A B) a=cK) (b:Bool) (f:decide (B%2=1)=b)
 (c:Nat) (g:c=cmod (2* A) a):bl c<=d/\bl (B/2)<=d/\bl (if b then S^^^A else S)<=d/\(if b then S^^^A else S)^^^cmod (cj c (B/2)) a=cK:=by
 have i:a≠0:=by intro h;subst h;rw[eJ]at j;omega
 refine⟨?_,?_,?_,?_⟩
 ·have:=mV (2* A) a i;rw[g];omega
 ·exact x3 (sJ _ _ (Nat.div_le_self B 2)) hB
 ·cases b
  ·exact e
  ·exact mO _ _ _ e k
 ·rw[<-hid,Lw A B a i,g];cases b
  ·have:¬B%2=1:=by simpa using f
   simp[this]
  ·have:B%2=1:=by simpa using f
   simp only[this,Qk];rw[kI A a oO,Nat.xor_assoc]
theorem Ir {B:Nat} (hB:B<2^62) (h:(bits BinOp.and J (B:Int) 1==1)=wP):decide (B%2=1)=wP:=by
 rw[o6 B hB]at h;rw[Uj];exact Int.ofNat.inj (eq_of_beq h)
theorem LG {B:Nat} (hB:B<2^62) (h:(bits BinOp.and J (B:Int) 1==1)=R):decide (B%2=1)=R:=by
 rw[o6 B hB]at h;rw[Vl];intro e;rw[e]at h;cases h
theorem LO {d a A:Nat} {s:Nat} (hs:2^d=s) (b:bl a=d+1) (c:bl A<=d) (h:(s:Int)<=(A:Int)* 2) (e:d<=12):
 bits BinOp.xor J ((A:Int)* 2) (a:Int)=((cmod (2* A) a:Nat):Int):=by
 rw[xp A a d b c,xl (by rw[hs];omega)];have f:A<2^12:=(bc _ _).1 oO;have g:a<2^13:=(bc _ _).1 oO;rw[show((A:Int)* 2)=((2* A:Nat):Int)from by omega];exact iw _ _ oO oO
theorem Mt {d a A:Nat} {s:Nat} (hs:2^d=s) (b:bl a=d+1) (c:bl A<=d) (h:(A:Int)* 2<(s:Int)):
 (A:Int)* 2=((cmod (2* A) a:Nat):Int):=by
 rw[xp A a d b c,w6 (by rw[hs];omega)];omega
theorem GK (d s g a b:Nat) (c:Int) (w:wR) (r:d<=12) (hs:2^d=s) (t:bl g=d+1) (C:bl a<=d) (hb:bl b<=d) (H:((g:Int)==0)=R):
 wS w1 196 #[aU c s g,I J a,I J b] w λe D=>e= .returned (I J (cmod (cj a b) g))/\y5 w.heap.size w D:=by
 have K:s<=4096:=by rw[<-hs];exact C3 (n:=2) oO r
 have n:=A7 hs;clear hs;have i:=A7 t;clear t;have m:=A7 r;clear r;go_enter func196,ntmps196;go_wp2_with fail
 go_loop [1,2,7] (λx y z=>∃A B S:Nat,x=I J A/\y=I J B/\z=I J S/\bl A<=d/\bl B<=d/\bl S<=d/\w2 (S^^^cmod (cj A B) g=cmod (cj a b) g)) (λ_ y _=>(intOf y).toNat)
 case atStart=>exact⟨a,b,0,rfl,rfl,rfl,C,hb,x1 _,by show _=_;simp⟩
 case round=>
  obtain⟨A,B,S,rfl,rfl,rfl,j,hB,o,hid⟩:=hrel;have E:A<2^12:=(bc _ _).1 (by have:=m.out;omega);have F:B<2^12:=(bc _ _).1 (by have:=m.out;omega);have G:S<2^12:=(bc _ _).1 (by have:=m.out;omega);have L:A<=4096:=oO;have M:B<=4096:=oO;have u:bits BinOp.xor J (S:Int) (A:Int)=((S^^^A:Nat):Int):=iw _ _ oO oO;have v:=A7 u;clear u;have q:w2 (B<2^62):=by show B<2^62;omega
  clear E F G;go_wp2
  ·rename_i p k l
   have f:=re d g A B S _ i.out j hB o hid.out wP (Ir q.out k) _ rfl;rw[v.out,LO n.out i.out j l m.out];exact⟨⟨_,B/2,_,rfl,by go_num,rfl,f.1,f.2.1,f.2.2.1,f.2.2.2⟩,by simp[intOf];omega⟩
  ·rename_i p k l
   have f:=re d g A B S _ i.out j hB o hid.out wP (Ir q.out k) _ rfl;rw[v.out,Mt n.out i.out j l];exact⟨⟨_,B/2,_,rfl,by go_num,rfl,f.1,f.2.1,f.2.2.1,f.2.2.2⟩,by simp[intOf];omega⟩
  ·rename_i p k l
   have f:=re d g A B S _ i.out j hB o hid.out R (LG q.out k) _ rfl;rw[LO n.out i.out j l m.out];exact⟨⟨_,B/2,_,rfl,by go_num,rfl,f.1,f.2.1,f.2.2.1,f.2.2.2⟩,by simp[intOf];omega⟩
  ·rename_i p k l
   have f:=re d g A B S _ i.out j hB o hid.out R (LG q.out k) _ rfl;rw[Mt n.out i.out j l];exact⟨⟨_,B/2,_,rfl,by go_num,rfl,f.1,f.2.1,f.2.2.1,f.2.2.2⟩,by simp[intOf];omega⟩
  ·rename_i p k
   obtain rfl:B=0:=oO;go_ret;refine⟨bM ?_,(w3 _ _).alloc (w5 _) _⟩;have:=hid.out;have N:=i.out;rw[gS,kI 0 g (by rw[eJ];omega),Nat.xor_zero]at this;rw[<-this]
theorem CP (s a b:Nat) (c:Int) (w:wR) (hs:2<s) (j:s<=4096) (f:a<s) (hb:b<s):
 wS w1 196 #[aU c s 0,I J a,I J b] w λe d=>e= .returned (I J (a* b%s:Nat))/\y5 w.heap.size w d:=by
 have k:a* b<=4096* 4096:=Nat.mul_le_mul oO oO;have g:(0:Int)<=(a:Int)* b:=by
  have:(0:Int)<=((a* b:Nat):Int):=oO;simpa using this
 have i:(a:Int)* b<=16777216:=by
  have:((a* b:Nat):Int)<=16777216:=oO;simpa using this
 go_enter func196,ntmps196;go_wp2;go_ret;exact⟨bM oS,(w3 _ _).alloc (w5 _) _⟩
theorem Di {S:Nat} (a d:Nat) (hs:S=2^d) (b:a<S):bl a<=d:=(bc _ _).2 (by rw[<-hs];exact b)
theorem xq (g S c:Nat) (a b:Int) (w:wR) (k:VF g S c) (n:0<=a) (q:a<S) (o:0<=b) (hb:b<S):
 wS w1 196 #[aU g S c,I J a,I J b] w λe l=>e= .returned (I J (aA S c a.toNat b.toNat:Nat))/\y5 w.heap.size w l:=by
 obtain⟨A,rfl⟩:=Av n;obtain⟨B,rfl⟩:=Av o;rw[As,As];unfold aA;rcases k with⟨m,hc,i,f,-⟩|⟨d,r,i,j,f,-,-⟩
 ·subst m;rw[xl rfl];exact CP S A B g w i f oO oO
 ·have p:c≠0:=by intro h;subst h;rw[eJ]at j;omega
  rw[w6 p];exact GK d S c A B g w i f.symm j (Di A d f oO) (Di B d f oO) (R3 oO)
theorem Js (A X k:Nat):cj (A* 2^k) X=(if X%2=1 then A* 2^k else 0)^^^cj (A* 2^(k+1)) (X/2):=by
 rw[fM,<-qj,show 2* (A* 2^k)=A* 2^(k+1)from by rw[H0];ac_rfl]
theorem yK (A B Q k cK:Nat) (g:bl A<=12) (hB:bl B<=12) (b:bl Q<=24) (e:0<B/2^k) (hid:Q^^^cj (A* 2^k) (B/2^k)=cK) (a:Bool) (c:decide (B/2^k%2=1)=a):
 k<12/\bl (if a then Q^^^A* 2^k else Q)<=24/\(if a then Q^^^A* 2^k else Q)^^^cj (A* 2^(k+1)) (B/2^(k+1))=cK:=by
 have f:k<12:=by
  rcases z6 k 12 with h|h
  ·exact h
  ·exfalso;have i:=(bc B 12).1 hB;have j:2^12<=2^k:=C3 oO h;rw[Nat.div_eq_of_lt oO]at e;omega
 refine⟨f,?_,?_⟩
 ·cases a
  ·exact b
  ·refine mO _ _ _ b ?_;by_cases d:A=0
   ·subst d;rw[Nat.zero_mul,eJ];omega
   ·rw[tZ A k d];omega
 ·rw[<-hid,Js A (B/2^k) k,Nat.div_div_eq_div_mul,<-H0];cases a
  ·have:¬B/2^k%2=1:=by simpa using c
   simp[this]
  ·have:B/2^k%2=1:=by simpa using c
   simp only[this,Qk];rw[Nat.xor_assoc]
theorem Ow {B k:Nat} (hB:B<2^40) (h:(bits BinOp.and J ((B:Int)/2^k) 1==1)=wP):decide (B/2^k%2=1)=wP:=by
 rw[wH B k hB]at h;rw[Uj];exact Int.ofNat.inj (eq_of_beq h)
theorem QT {B k:Nat} (hB:B<2^40) (h:(bits BinOp.and J ((B:Int)/2^k) 1==1)=R):decide (B/2^k%2=1)=R:=by
 rw[wH B k hB]at h;rw[Vl];intro e;rw[e]at h;cases h
theorem xO {b k:Nat} (h:(0:Int)<(b:Int)/2^k):0<b/2^k:=by
 rw[show((b:Int)/2^k)=((b/2^k:Nat):Int)from by simp]at h;generalize b/2^k=N at*;omega
theorem E9 {b k:Nat} (h:(b:Int)/2^k<=0):b/2^k=0:=by
 rw[show((b:Int)/2^k)=((b/2^k:Nat):Int)from by simp]at h;generalize b/2^k=N at*;omega
theorem KW (a Q k:Nat) (e:bl a<=12) (f:k<=12) (c:bl Q<=24):bits BinOp.xor J (Q:Int) (UN ((a:Int)* 2^k))=((Q^^^a* 2^k:Nat):Int):=by
 have d:bl (a* 2^k)<=24:=by
  by_cases b:a=0
  ·subst b;rw[Nat.zero_mul,eJ];omega
  ·rw[tZ a k b];omega
 have g:=(bc _ _).1 d;have i:=(bc _ _).1 c;rw[show((a:Int)* 2^k)=((a* 2^k:Nat):Int)from by simp];generalize a* 2^k=N at*;rw[IntWalk.wrap64_in _ oO,iw _ _ oO oO]
theorem Mx (s f a b:Nat) (w:wR) (u:bl f<=13) (v:0<f) (g:bl a<=12) (hb:bl b<=12):
 wS w1 148 #[aU 2 s f,I J a,I J b] w λe o=>e= .returned (I J (cmod (cj a b) f))/\y5 w.heap.size w o:=by
 have z:a<=4096:=by have:=(bc _ _).1 g;omega
 have A:b<=4096:=by have:=(bc _ _).1 hb;omega
 go_enter func148,ntmps148;go_wp2_with fail
 go_loop [7,8] (λx y=>∃Q k:Nat,x=I J Q/\y=I J k/\k<=12/\bl Q<=24/\w2 (Q^^^cj (a* 2^k) (b/2^k)=cj a b)) (λ_ y=>20-(intOf y).toNat)
 case atStart=>exact⟨0,0,rfl,rfl,by omega,x1 _,by show _=_;simp⟩
 case round=>
  obtain⟨Q,k,rfl,rfl,r,i,hid⟩:=hrel;have p:=A7 hb;clear hb;have j:=A7 g;clear g;go_wp2_with fail
  ·rename_i c l
   have n:b<2^40:=oO;have d:=yK a b Q k _ j.out p.out i (xO c) hid.out wP (Ow n l);rw[KW a Q k j.out r i];exact⟨⟨_,k+1,rfl,by go_num,by omega,d.2.1,d.2.2⟩,by simp[intOf];omega⟩
  ·rename_i c l
   have n:b<2^40:=oO;have d:=yK a b Q k _ j.out p.out i (xO c) hid.out R (QT n l);exact⟨⟨_,k+1,rfl,by go_num,by omega,d.2.1,d.2.2⟩,by simp[intOf];omega⟩
  ·have c:(b:Int)/2^k<=0:=by assumption
   have q:=E9 c;have m:=hid.out;rw[q,gS,Nat.xor_zero]at m;have t:=A7 m;clear m;clear q;refine(vX _ _ _ oO (by rw[As];omega) oO (by rw[As];omega)).mono ?_;rintro e o ⟨rfl,rfl⟩;go_wp2;go_ret;exact⟨bM (by rw[t.out]),(w3 _ _).alloc (w5 _) _⟩
theorem Gx (s a b:Nat) (c:Int) (w:wR) (hc:(c==2)=R) (hs:2<s) (j:s<=4096) (f:a<s) (hb:b<s):
 wS w1 148 #[aU c s 0,I J a,I J b] w λe d=>e= .returned (I J (a* b%s:Nat))/\y5 w.heap.size w d:=by
 have k:a* b<=4096* 4096:=Nat.mul_le_mul oO oO;have g:(0:Int)<=(a:Int)* b:=by
  have:(0:Int)<=((a* b:Nat):Int):=oO;simpa using this
 have i:(a:Int)* b<=16777216:=by
  have:((a* b:Nat):Int)<=16777216:=oO;simpa using this
 go_enter func148,ntmps148;go_wp2;go_ret;exact⟨bM oS,(w3 _ _).alloc (w5 _) _⟩
theorem pt (i S c:Nat) (a b:Int) (w:wR) (j:VF i S c) (n:0<=a) (q:a<S) (o:0<=b) (hb:b<S):
 wS w1 148 #[aU i S c,I J a,I J b] w λe k=>e= .returned (I J (aA S c a.toNat b.toNat:Nat))/\y5 w.heap.size w k:=by
 obtain⟨A,rfl⟩:=Av n;obtain⟨B,rfl⟩:=Av o;rw[As,As];unfold aA;rcases j with⟨l,hc,f,g,-⟩|⟨d,r,f,m,g,hc,-⟩
 ·subst l;rw[xl rfl];exact Gx S A B i w (R3 oO) f g oO oO
 ·have p:c≠0:=by intro h;subst h;rw[eJ]at m;omega
  rw[w6 p];subst hc;exact Mx S c A B w oO oO (x3 (Di A d g oO) f) (x3 (Di B d g oO) f)
def dP (w:wR) (c s a:Int) (wr:wR):Prop:=
 y5 w.heap.size w wr/\w.heap.size<wr.heap.size/\wr.cell? ⟨w.heap.size,0,U⟩=gk (I J c)/\wr.cell? ⟨w.heap.size,1,U⟩=gk (I J s)/\wr.cell? ⟨w.heap.size,2,U⟩=gk (I J a)
theorem dP.start (w:wR) (c s a:Int) (b:Nat):dP w c s a (w.alloc (.cells #[I J c,I J s,I J a] b)):=by
 refine⟨(w3 _ _).alloc (w5 _) _,by simp,?_,?_,?_⟩<;>go_simp
theorem dP.step {w wr d:wR} {c s b:Int} (h:dP w c s b wr) (hb:y5 wr.heap.size wr d):dP w c s b d:=by
 obtain⟨e,a,f,g,i⟩:=h;exact⟨e.trans (hb.mono oO),Nat.lt_of_lt_of_le a hb.size,(hb.cell a).trans f,(hb.cell a).trans g,(hb.cell a).trans i⟩
theorem dP.drew {w wr:wR} {c s a:Int} (h:dP w c s a wr):dP w c s a wr.drew:=⟨h.1.drew,h.2.1,h.2.2.1,h.2.2.2.1,h.2.2.2.2⟩
theorem dP.below {w wr:wR} {c s a:Int} (h:dP w c s a wr):y5 w.heap.size w wr:=h.1
theorem s5 (d S b a n:Nat) (w:wR) (j:VF d S b) (u:a<S) (hn:n<=1000000):
 wS w1 213 #[aU d S b,I J a,I J n] w λe v=>e= .returned (I J (aM S b a n:Nat))/\y5 w.heap.size w v:=by
 have G:=j.le;have M:=j.aO;have c:=A7 j;clear j;go_enter func213,ntmps213;go_wp2_with fail
 go_loopw [1,2,7] (λx y z wr=>∃A N cK:Nat,x=I J A/\y=I J N/\z=I J cK/\A<S/\N<=1000000/\cK<S/\w2 (aA S b cK (aM S b A N)=aM S b a n)/\dP w d S b wr) (λ_ y _ _=>(intOf y).toNat)
 case atStart=>exact⟨a,n,1,rfl,rfl,rfl,u,hn,by omega,x9 c.out _ (mC c.out _ _),dP.start w d S b _⟩
 case round=>
  obtain⟨A,N,cK,rfl,rfl,rfl,q,H,k,hid,p⟩:=hrel;obtain⟨r,O,P,Q,T⟩:=id p;have s:=A7 p;clear p;have C:=A7 r;clear r;by_cases K:0<N
  ·by_cases l:N%2=1
   ·have D:((N:Int)%2==1)=wP:=by
     rw[HX];omega
    have m:=A7 l;clear l;go_wp2_with fail
    refine(pt d S b _ _ _ c.out oO oO oO oO).mono ?_;rintro e B ⟨rfl,g⟩;have i:=s.out.step g;obtain⟨-,Y,V,W,X⟩:=id i;have E:=A7 i;clear i g;go_wp2_with fail
    refine(pt d S b _ _ _ c.out oO oO oO oO).mono ?_;rintro e L ⟨rfl,t⟩;have F:=A7 (E.out.step t);clear t;have f:=A7 ((pow_odd c.out cK A N k q m.out).trans hid.out);clear hid;go_wp2_with fail
    exact⟨⟨aA S b A A,N/2,aA S b cK A,rfl,by go_num,rfl,bk c.out _ _,by omega,bk c.out _ _,f.out,F.out⟩,by simp[intOf];omega⟩
   ·have D:((N:Int)%2==1)=R:=by
     rw[w4];omega
    have m:w2 (N%2=0):=by show N%2=0;omega
    clear l;go_wp2_with fail
    refine(pt d S b _ _ _ c.out oO oO oO oO).mono ?_;rintro e B ⟨rfl,g⟩;have i:=A7 (s.out.step g);clear g;have f:=A7 ((pow_even c.out cK A N k q m.out).trans hid.out);clear hid;go_wp2_with fail
    exact⟨⟨aA S b A A,N/2,cK,rfl,by go_num,rfl,bk c.out _ _,by omega,k,f.out,i.out⟩,by simp[intOf];omega⟩
  ·obtain rfl:N=0:=oO;have o:=hid.out;rw[show aM S b A 0=1 from rfl,yc c.out cK k]at o;have f:=A7 o;clear o hid;go_wp2_with fail
   go_ret;exact⟨bM (by rw[f.out]),C.out⟩
theorem J8 (c S b:Nat) (a n:Int) (w:wR) (d:VF c S b) (g:0<=a) (j:a<S) (i:0<=n) (hn:n<=1000000):
 wS w1 213 #[aU c S b,I J a,I J n] w λe f=>e= .returned (I J (aM S b a.toNat n.toNat:Nat))/\y5 w.heap.size w f:=by
 obtain⟨A,rfl⟩:=Av g;obtain⟨N,rfl⟩:=Av i;exact s5 c S b A N w d oO oO
theorem VF.TD {c s a:Nat} (h:VF c s a) (b:a=0):c≠2/\2<s:=by
 rcases h with⟨_,f,g,-⟩|⟨d,_,_,e,_⟩
 ·omega
 ·subst b;rw[eJ]at e;omega
theorem VF.even {c s a:Nat} (h:VF c s a) (g:a≠0):c=2/\2<=a:=by
 rcases h with⟨b,_⟩|⟨d,b,_,i,_,f,_⟩
 ·omega
 ·refine⟨f,?_⟩;rcases z6 a 2 with h|h
  ·have:a=1:=oO;subst this;have e:bl 1=1:=by decide
   omega
  ·exact h
theorem Mc (g S c:Nat) (a b:Int) (w:wR) (d:VF g S c) (k:0<=a) (m:a<S) (l:0<=b) (hb:b<S):
 wS w1 146 #[aU g S c,I J a,I J b] w λe j=>e= .returned (I J (bU S c a.toNat b.toNat:Nat))/\y5 w.heap.size w j:=by
 have n:=d.le;have o:=d.aO;by_cases f:c=0
 ·have hc:(((g:Nat):Int)==2)=R:=by rw[w4];have:=(d.TD f).1;omega
  have i:w2 ((bU S c a.toNat b.toNat:Nat)=(a+b)%(S:Int)):=by
   show _=_;unfold bU;rw[xl f,VN,show((a.toNat+b.toNat:Nat):Int)=a+b from by omega]
  clear d f;go_enter func146,ntmps146;go_wp2;go_ret;exact⟨bM (by rw[i.out]),(w3 _ _).alloc (w5 _) _⟩
 ·have hc:(((g:Nat):Int)==2)=wP:=by rw[HX];have:=(d.even f).1;omega
  have i:w2 ((bU S c a.toNat b.toNat:Nat)=bits BinOp.xor J a b):=by
   show _=_;unfold bU;rw[w6 f,IE a b k oO l oO]
  clear d f;go_enter func146,ntmps146;go_wp2;go_ret;exact⟨bM (by rw[i.out]),(w3 _ _).alloc (w5 _) _⟩
theorem JQ (g S c:Nat) (a b:Int) (w:wR) (d:VF g S c) (k:0<=a) (m:a<S) (l:0<=b) (hb:b<S):
 wS w1 147 #[aU g S c,I J a,I J b] w λe j=>e= .returned (I J (bD S c a.toNat b.toNat:Nat))/\y5 w.heap.size w j:=by
 have n:=d.le;have o:=d.aO;by_cases f:c=0
 ·have hc:(((g:Nat):Int)==2)=R:=by rw[w4];have:=(d.TD f).1;omega
  have i:w2 ((bD S c a.toNat b.toNat:Nat)=(a+(S:Int)-b)%(S:Int)):=by
   show _=_;unfold bD;rw[xl f,VN,show((a.toNat+S-b.toNat:Nat):Int)=a+S-b from by omega]
  clear d f;go_enter func147,ntmps147;go_wp2;go_ret;exact⟨bM (by rw[i.out]),(w3 _ _).alloc (w5 _) _⟩
 ·have hc:(((g:Nat):Int)==2)=wP:=by rw[HX];have:=(d.even f).1;omega
  have i:w2 ((bD S c a.toNat b.toNat:Nat)=bits BinOp.xor J a b):=by
   show _=_;unfold bD;rw[w6 f,IE a b k oO l oO]
  clear d f;go_enter func147,ntmps147;go_wp2;go_ret;exact⟨bM (by rw[i.out]),(w3 _ _).alloc (w5 _) _⟩
theorem Ly (d S c a k:Nat) (w:wR) (f:VF d S c) (n:a<S) (g:nK S c a k) (E:k<=4096):
 wS w1 221 #[aU d S c,I J a] w λe q=>e= .returned (I J k)/\y5 w.heap.size w q:=by
 have A:=f.le;have F:=f.aO;have i:=A7 f;clear f;have G:=g.1;have o:=A7 g;clear g;go_enter func221,ntmps221;go_wp2_with fail
 go_loopw [5,6] (λy x wr=>∃b X:Nat,y=I J b/\x=I J X/\1<=b/\b<=k/\X<S/\w2 (X=aM S c a b)/\dP w d S c wr) (λy _ _=>k-(intOf y).toNat)
 case atStart=>exact⟨1,a,rfl,rfl,by omega,by omega,n,(x9 i.out a n).symm,dP.start w d S c _⟩
 case round=>
  obtain⟨b,X,rfl,rfl,t,B,C,hid,l⟩:=hrel;obtain⟨p,H,K,L,M⟩:=id l;have u:=A7 l;clear l;have v:=A7 p;clear p;by_cases j:X=1
  ·subst j;have m:b=k:=by
    by_cases h:b<k
    ·exact absurd hid.out.symm (o.out.2.2 b t h)
    ·omega
   have r:=A7 m;clear m;go_wp2_with fail
   go_ret;exact⟨bM (by rw[r.out]),v.out⟩
  ·have m:b<k:=by
    rcases z6 b k with h|h
    ·exact h
    ·exfalso;apply j;have:b=k:=oO;subst this;rw[hid.out];exact o.out.2.1
   have N:(((X:Nat):Int)!=1)=wP:=by rw[Vq];omega
   have s:w2 (aA S c X a=aM S c a (b+1)):=by show _=aA S c (aM S c a b) a;rw[<-hid.out]
   clear j hid;go_wp2_with(go_at_call 196;refine(xq d S c _ _ _ i.out oO oO oO oO).mono ?_;rintro e D ⟨rfl,z⟩)
   exact⟨⟨b+1,aA S c X a,by go_num,rfl,by omega,by omega,bk i.out _ _,s.out,u.out.step z⟩,by simp[intOf];omega⟩
theorem JF (d S c a k:Nat) (w:wR) (f:VF d S c) (n:a<S) (g:nK S c a k) (E:k<S):
 wS w1 223 #[aU d S c,I J a] w λe q=>e= .returned (I J k)/\y5 w.heap.size w q:=by
 have A:=f.le;have F:=f.aO;have i:=A7 f;clear f;have G:=g.1;have o:=A7 g;clear g;go_enter func223,ntmps223;go_wp2_with fail
 go_loopw [5,6] (λy x wr=>∃b X:Nat,y=I J b/\x=I J X/\1<=b/\b<=k/\X<S/\w2 (X=aM S c a b)/\dP w d S c wr) (λy _ _=>k-(intOf y).toNat)
 case atStart=>exact⟨1,a,rfl,rfl,by omega,by omega,n,(x9 i.out a n).symm,dP.start w d S c _⟩
 case round=>
  obtain⟨b,X,rfl,rfl,t,B,C,hid,l⟩:=hrel;obtain⟨p,H,K,L,M⟩:=id l;have u:=A7 l;clear l;have v:=A7 p;clear p;by_cases j:X=1
  ·subst j;have m:b=k:=by
    by_cases h:b<k
    ·exact absurd hid.out.symm (o.out.2.2 b t h)
    ·omega
   have r:=A7 m;clear m;go_wp2_with fail
   go_ret;exact⟨bM (by rw[r.out]),v.out⟩
  ·have m:b<k:=by
    rcases z6 b k with h|h
    ·exact h
    ·exfalso;apply j;have:b=k:=oO;subst this;rw[hid.out];exact o.out.2.1
   have N:(((X:Nat):Int)!=1)=wP:=by rw[Vq];omega
   have s:w2 (aA S c X a=aM S c a (b+1)):=by show _=aA S c (aM S c a b) a;rw[<-hid.out]
   clear j hid;go_wp2_with(go_at_call 148;refine(pt d S c _ _ _ i.out oO oO oO oO).mono ?_;rintro e D ⟨rfl,z⟩)
   exact⟨⟨b+1,aA S c X a,by go_num,rfl,by omega,by omega,bk i.out _ _,s.out,u.out.step z⟩,by simp[intOf];omega⟩
theorem BZ (c S b:Nat) (a:Int) (w:wR) (d:VF c S b) (i:0<a) (j:a<S):
 wS w1 221 #[aU c S b,I J a] w λe g=>e= .returned (I J (pO S b a.toNat:Nat))/\y5 w.heap.size w g:=by
 obtain⟨A,rfl⟩:=Av (Int.le_of_lt i);have f:=rr d (a:=A) oO oO;have:=d.le;rw[As];exact Ly c S b A _ w d oO f.1 (by have:=f.2;omega)
theorem Ae (c S b:Nat) (a:Int) (w:wR) (d:VF c S b) (i:0<a) (j:a<S):
 wS w1 223 #[aU c S b,I J a] w λe g=>e= .returned (I J (pO S b a.toNat:Nat))/\y5 w.heap.size w g:=by
 obtain⟨A,rfl⟩:=Av (Int.le_of_lt i);have f:=rr d (a:=A) oO oO;rw[As];exact JF c S b A _ w d oO f.1 (by have:=f.2;omega)
theorem ng {w:wR} {c s a:Int} {wr:wR} (h:dP w c s a wr):(wr.cell? ⟨w.heap.size,0,U⟩=gk (I J c)/\wr.cell? ⟨w.heap.size,1,U⟩=gk (I J s)/\wr.cell? ⟨w.heap.size,2,U⟩=gk (I J a))/\dP w c s a wr:=⟨h.2.2,h⟩
theorem C6 (c S a:Nat) (w:wR) (d:VF c S a):
 wS w1 195 #[aU c S a] w λe b=>e= .returned (I J (aV S a:Nat))/\y5 w.heap.size w b:=by
 have z:=d.le;have B:=d.aO;have hg:=jV d;have C:=hg.1;have o:=hg.2.1;have f:=A7 d;clear d;have m:=A7 hg;clear hg;go_enter func195,ntmps195;go_wp2_with fail
 go_loopw [3] (λx wr=>∃X:Nat,x=I J X/\1<=X/\X<=aV S a/\dP w c S a wr) (λx _=>aV S a-(intOf x).toNat)
 case atStart=>exact⟨1,rfl,by omega,by omega,dP.start w c S a _⟩
 case round=>
  obtain⟨X,rfl,t,A,g⟩:=hrel;obtain⟨p,D,E,F,G⟩:=id g;have q:=A7 g;clear g;have H:=A7 p;clear p;have K:X<S:=oO;have i:=A7 o;clear o;by_cases u:X<aV S a
  ·have v:(((pO S a X:Nat):Int)!=(S:Int)-1)=wP:=by
    rw[Vq];intro e;have n:=rr f.out (a:=X) (by have:=i.out;omega) oO;have e2:pO S a X=S-1:=oO;rw[e2]at n;exact m.out.2.2.2 X t u n.1
   have j:J.wrap ((S:Int)-1)=(S:Int)-1:=IntWalk.i64_in _ oO;go_wp2_with fail
   go_region_held3 (λb=>(b.cell? ⟨w.heap.size,0,U⟩=gk (I J c)/\b.cell? ⟨w.heap.size,1,U⟩=gk (I J S)/\b.cell? ⟨w.heap.size,2,U⟩=gk (I J a))/\dP w c S a b) (first|exact ng (dP.drew q.out)|exact ng (by assumption)) (first|(go_at_call 221;refine(BZ c S a _ _ f.out oO (by have:=i.out;omega)).mono ?_;rintro e r ⟨rfl,k⟩;have y:=dP.step (And.right (by assumption)) k))
   all_goals clear j
   all_goals go_wp2
   all_goals exact⟨⟨X+1,by go_num,by omega,by omega,And.right (by assumption)⟩,by simp[intOf];omega⟩
  ·have l:X=aV S a:=oO;have v:(((pO S a X:Nat):Int)!=(S:Int)-1)=R:=by
    rw[l,Bn m.out.2.2.1,bne_eq_false_iff_eq];omega
   have s:=A7 l;clear l;have j:J.wrap ((S:Int)-1)=(S:Int)-1:=IntWalk.i64_in _ oO;go_wp2_with fail
   go_region_held3 (λb=>(b.cell? ⟨w.heap.size,0,U⟩=gk (I J c)/\b.cell? ⟨w.heap.size,1,U⟩=gk (I J S)/\b.cell? ⟨w.heap.size,2,U⟩=gk (I J a))/\dP w c S a b) (first|exact ng (dP.drew q.out)|exact ng (by assumption)) (first|(go_at_call 221;refine(BZ c S a _ _ f.out oO (by have:=i.out;omega)).mono ?_;rintro e r ⟨rfl,k⟩;have y:=dP.step (And.right (by assumption)) k))
   all_goals clear j
   all_goals go_wp2
   all_goals go_ret
   all_goals exact⟨bM (by rw[s.out]),dP.below (And.right (by assumption))⟩
theorem uo (c S a:Nat) (w:wR) (d:VF c S a):
 wS w1 210 #[aU c S a] w λe b=>e= .returned (I J (aV S a:Nat))/\y5 w.heap.size w b:=by
 have z:=d.le;have B:=d.aO;have hg:=jV d;have C:=hg.1;have n:=hg.2.1;have f:=A7 d;clear d;have l:=A7 hg;clear hg;go_enter func210,ntmps210;go_wp2_with fail
 go_loopw [3] (λx wr=>∃X:Nat,x=I J X/\1<=X/\X<=aV S a/\dP w c S a wr) (λx _=>aV S a-(intOf x).toNat)
 case atStart=>exact⟨1,rfl,by omega,by omega,dP.start w c S a _⟩
 case round=>
  obtain⟨X,rfl,s,A,g⟩:=hrel;obtain⟨o,D,E,F,G⟩:=id g;have p:=A7 g;clear g;have H:=A7 o;clear o;have K:X<S:=oO;have t:=A7 n;clear n;by_cases u:X<aV S a
  ·have v:(((pO S a X:Nat):Int)==(S:Int)-1)=R:=by
    rw[w4];intro e;have m:=rr f.out (a:=X) (by have:=t.out;omega) oO;have e2:pO S a X=S-1:=oO;rw[e2]at m;exact l.out.2.2.2 X s u m.1
   have i:J.wrap ((S:Int)-1)=(S:Int)-1:=IntWalk.i64_in _ oO;go_wp2_with fail
   go_region_held3 (λb=>(b.cell? ⟨w.heap.size,0,U⟩=gk (I J c)/\b.cell? ⟨w.heap.size,1,U⟩=gk (I J S)/\b.cell? ⟨w.heap.size,2,U⟩=gk (I J a))/\dP w c S a b) (first|exact ng (dP.drew p.out)|exact ng (by assumption)) (first|(go_at_call 223;refine(Ae c S a _ _ f.out oO oO).mono ?_;rintro e q ⟨rfl,j⟩;have y:=dP.step (And.right (by assumption)) j))
   all_goals clear i
   all_goals go_wp2
   all_goals exact⟨⟨X+1,by go_num,by omega,by omega,And.right (by assumption)⟩,by simp[intOf];omega⟩
  ·have k:X=aV S a:=oO;have v:(((pO S a X:Nat):Int)==(S:Int)-1)=wP:=by
    rw[k,Bn l.out.2.2.1,HX];omega
   have r:=A7 k;clear k;have i:J.wrap ((S:Int)-1)=(S:Int)-1:=IntWalk.i64_in _ oO;go_wp2_with fail
   go_region_held3 (λb=>(b.cell? ⟨w.heap.size,0,U⟩=gk (I J c)/\b.cell? ⟨w.heap.size,1,U⟩=gk (I J S)/\b.cell? ⟨w.heap.size,2,U⟩=gk (I J a))/\dP w c S a b) (first|exact ng (dP.drew p.out)|exact ng (by assumption)) (first|(go_at_call 223;refine(Ae c S a _ _ f.out oO oO).mono ?_;rintro e q ⟨rfl,j⟩;have y:=dP.step (And.right (by assumption)) j))
   all_goals clear i
   all_goals go_wp2
   all_goals go_ret
   all_goals exact⟨bM (by rw[r.out]),dP.below (And.right (by assumption))⟩
theorem yw (c s d a b:Int) (k:Nat) (w:wR) (g:d<=9223372036854775807) (l:k<w.heap.size) (m:w.cell? ⟨k,0,U⟩=gk (I J a)) (o:w.cell? ⟨k,1,U⟩=gk (I J b)):
 wS w1 157 #[aU c s d,.slice (gk ⟨k,0,U⟩) 2 2] w λe p=>e= .returned (.bool (bp c s d&&iQ s [a,b]))/\y5 w.heap.size w p:=by
 cases i:bp c s d
 ·exact LL c s d _ w g i
 ·refine QK c s d [a,b] k w g i oS l ?_;intro j f
  match j,f with
  |0,_=>exact m
  |1,_=>exact o
  |n+2,f=>simp at f;omega
theorem Fe (c s a:Int) (w:wR) (b:a<=9223372036854775807):
 wS w1 157 #[aU c s a,.slice U 0 0] w λe f=>e= .returned (.bool (bp c s a))/\y5 w.heap.size w f:=by
 cases d:bp c s a
 ·exact LL c s a _ w b d
 ·exact M3 c s a w b d
abbrev ve (x:Int×Int):Value:= .tuple #[I J x.1,I J x.2]
theorem wT {c s a:Int} (h:bp c s a=wP):∃d S e:Nat,c=d/\s=S/\a=e/\VF d S e:=by
 unfold bp at h;by_cases f:a=0
 ·rw[xl f]at h;simp only[Az,Uj]at h;obtain⟨⟨⟨g,j⟩,i⟩,b⟩:=h;refine⟨c.toNat,s.toNat,0,by omega,by omega,by omega,.inl ⟨rfl,by omega,by omega,by omega,b⟩⟩
 ·rw[w6 f]at h;simp only[Az,Uj]at h;obtain⟨⟨⟨⟨g,j⟩,i⟩,b⟩,k⟩:=h;have hb:=ry a g;have hs:s.toNat=2^(bl a.toNat-1):=by rw[b];exact As _
  have l:s=(s.toNat:Int):=(Int.toNat_of_nonneg (by rw[b];exact Int.natCast_nonneg _)).symm;exact⟨2,s.toNat,a.toNat,i,l,by omega,.inr ⟨bl a.toNat-1,by omega,by omega,by omega,hs,rfl,k⟩⟩
theorem dP.alloc {w wr:wR} {c s a:Int} (h:dP w c s a wr) (b:Obj):dP w c s a (wr.alloc b):=by
 have:=y8 wr b w.heap.size h.2.1;refine⟨h.1.alloc h.1.size _,by have:=h.2.1;simp;omega,?_,?_,?_⟩
 ·exact(Ur this).trans h.2.2.1
 ·exact(Ur this).trans h.2.2.2.1
 ·exact(Ur this).trans h.2.2.2.2
def sK (s a:Int):Bool:=decide (0<=a)&&decide (a<s)
def uy (c s d a b:Int):Bool:=bp c s d&&sK s a&&sK s b
theorem uH (c s d a b:Int):(bp c s d&&iQ s [a,b])=uy c s d a b:=by simp[iQ,uy,sK,Bool.and_assoc]
theorem IG {c s f a b:Int} (h:uy c s f a b=wP):∃d S e A B:Nat,c=d/\s=S/\f=e/\a=A/\b=B/\A<S/\B<S/\VF d S e:=by
 unfold uy sK at h;simp only[Az,Uj]at h;obtain⟨d,S,e,rfl,rfl,rfl,g⟩:=wT h.1.1;exact⟨d,S,e,a.toNat,b.toNat,rfl,rfl,rfl,by omega,by omega,by omega,by omega,g⟩
theorem lH {g S a:Nat} (h:VF g S a):bp g S a=wP:=by
 have b:=h.aO;unfold bp;rcases h with⟨i,b,c,j,f⟩|⟨d,i,b,c,j,f,k⟩
 ·subst i;subst b;rw[xl (by rfl)];simp[f];omega
 ·have l:¬((a:Nat):Int)=0:=by
   intro h;have:a=0:=oO
   subst this;rw[eJ]at c;omega
  have m:2<=a:=by
   rcases z6 a 2 with h|h
   ·have:a=1:=oO;subst this;have e:bl 1=1:=by decide
    omega
   ·exact h
  rw[w6 l];subst j;subst f;simp only[As,c,k,Az,Uj];refine⟨⟨⟨⟨by omega,by omega⟩,rfl⟩,by simp⟩,trivial⟩
theorem Ez {S A:Nat} (h:A<S):sK S A=wP:=by unfold sK;simp;omega
theorem sE {a S b A B:Nat} (h:VF a S b) (c:A<S) (hb:B<S):uy a S b A B=wP:=by unfold uy;rw[lH h,Ez c,Ez hb];rfl
theorem P0 {a b v e:Int} (c:a=v) (d:b=e):Ending.returned (.tuple #[I J a,I J b])= .returned (ve (v,e)):=by rw[c,d]
def Ea (c s d a b:Int):Int×Int:=if uy c s d a b then((bD s.toNat d.toNat a.toNat b.toNat:Nat),0)else(0,1)
def mulR (c s d a b:Int):Int×Int:=if uy c s d a b then((aA s.toNat d.toNat a.toNat b.toNat:Nat),0)else(0,1)
noncomputable def xX (c s a:Int):Int×Int:=if bp c s a then((aV s.toNat a.toNat:Nat),0)else(0,1)
theorem SA (c s d a b:Int) (w:wR) (j:d<=9223372036854775807) (h:uy c s d a b=R):
 wS w1 117 #[aU c s d,I J a,I J b] w λe f=>e= .returned (ve (0,1))/\y5 w.heap.size w f:=by
 have k:w2 ((bp c s d&&iQ s [a,b])=R):=(uH c s d a b).trans h;clear h;go_enter func117,ntmps117;exact Rj
theorem RI (c s d a b:Int) (w:wR) (j:d<=9223372036854775807) (h:uy c s d a b=R):
 wS w1 159 #[aU c s d,I J a,I J b] w λe f=>e= .returned (ve (0,1))/\y5 w.heap.size w f:=by
 have k:w2 ((bp c s d&&iQ s [a,b])=R):=(uH c s d a b).trans h;clear h;go_enter func159,ntmps159;exact Rj
theorem Fk (c s a:Int) (w:wR) (f:a<=9223372036854775807) (h:bp c s a=R):
 wS w1 158 #[aU c s a] w λe g=>e= .returned (ve (0,1))/\y5 w.heap.size w g:=by
 have i:=A7 h;clear h;go_enter func158,ntmps158;go_wp2_with fail
 refine(Fe c s a _ f).mono ?_;rintro e k ⟨rfl,d⟩;rw[i.out];have b:=dP.step (dP.start w c s a 89) d;obtain⟨-,l,m,n,o⟩:=id b;have j:=A7 b;clear b d;go_wp2_with fail
 go_ret2
 exact⟨rfl,j.out.below⟩
theorem VF.ui {b S a:Nat} (h:VF b S a):(a:Int)<=9223372036854775807:=by
 rcases h with⟨c,_⟩|⟨d,_,c,e,_⟩
 ·omega
 ·have:=(bc a 13).1 oO;omega
theorem S9 (c S a A B:Nat) (w:wR) (b:VF c S a) (f:A<S) (hb:B<S) (d:a=0):
 wS w1 117 #[aU c S a,I J A,I J B] w λe g=>e= .returned (ve ((bD S a A B:Nat),0))/\y5 w.heap.size w g:=by
 have n:=b.le;have o:=b.aO;have j:(a:Int)<=9223372036854775807:=b.ui;have k:w2 ((bp c S a&&iQ S [(A:Int),(B:Int)])=wP):=(uH _ _ _ _ _).trans (sE b f hb);have p:(((a:Nat):Int)!=0)=R:=by rw[d];rfl
 have l:w2 (((A:Int)-B+S)%S=((bD S a A B:Nat):Int)):=by
  show _=_;unfold bD;rw[xl d,VN];exact congrArg (λx=>x%(S:Int)) oO
 exact RH
theorem Sx (c S a A B:Nat) (w:wR) (b:VF c S a) (f:A<S) (hb:B<S) (d:a≠0):
 wS w1 117 #[aU c S a,I J A,I J B] w λe g=>e= .returned (ve ((bD S a A B:Nat),0))/\y5 w.heap.size w g:=by
 have n:=b.le;have o:=b.aO;have j:(a:Int)<=9223372036854775807:=b.ui;have k:w2 ((bp c S a&&iQ S [(A:Int),(B:Int)])=wP):=(uH _ _ _ _ _).trans (sE b f hb);have p:(((a:Nat):Int)!=0)=wP:=by rw[Vq];omega
 have l:w2 (bits BinOp.xor J (A:Int) (B:Int)=((bD S a A B:Nat):Int)):=by
  show _=_;unfold bD;rw[w6 d];exact iw A B oO oO
 exact RH
theorem Qq (b S a A B:Nat) (w:wR) (c:VF b S a) (j:A<S) (hb:B<S):
 wS w1 159 #[aU b S a,I J A,I J B] w λe k=>e= .returned (ve ((aA S a A B:Nat),0))/\y5 w.heap.size w k:=by
 have q:=c.le;have t:=c.aO;have l:(a:Int)<=9223372036854775807:=c.ui;have m:w2 ((bp b S a&&iQ S [(A:Int),(B:Int)])=wP):=(uH _ _ _ _ _).trans (sE c j hb);have n:=A7 c;clear c;go_enter func159,ntmps159;go_wp2_with fail
 refine(yw b S a A B _ _ l oS (by go_simp) (by go_simp)).mono ?_;rintro e r ⟨rfl,g⟩;rw[m.out];have d:=dP.step (dP.alloc (dP.start w b S a 89) (.cells #[I J A,I J B] 3)) g;obtain⟨-,u,v,x,y⟩:=id d;have o:=A7 d;clear d g;go_wp2_with fail
 refine(xq b S a _ _ _ n.out oO oO oO oO).mono ?_;rintro e s ⟨rfl,i⟩;have f:=dP.step o.out i;obtain⟨-,z,C,D,E⟩:=id f;have p:=A7 f;clear f i;go_wp2_with fail
 go_ret2
 exact⟨rfl,p.out.below⟩
theorem CX (b S a:Nat) (w:wR) (c:VF b S a):
 wS w1 158 #[aU b S a] w λe j=>e= .returned (ve ((aV S a:Nat),0))/\y5 w.heap.size w j:=by
 have p:=c.le;have s:=c.aO;have k:(a:Int)<=9223372036854775807:=c.ui;have l:w2 (bp b S a=wP):=lH c;have m:=A7 c;clear c;go_enter func158,ntmps158;go_wp2_with fail
 refine(Fe b S a _ k).mono ?_;rintro e q ⟨rfl,g⟩;rw[l.out];have d:=dP.step (dP.start w b S a 89) g;obtain⟨-,t,u,v,x⟩:=id d;have n:=A7 d;clear d g;go_wp2_with fail
 refine(C6 b S a _ m.out).mono ?_;rintro e r ⟨rfl,i⟩;have f:=dP.step n.out i;obtain⟨-,y,z,A,B⟩:=id f;have o:=A7 f;clear f i;go_wp2_with fail
 go_ret2
 exact⟨rfl,o.out.below⟩
theorem PR (c s d a b:Int) (w:wR) (hs:s<=9223372036854775807) (l:d<=9223372036854775807):
 wS w1 117 #[aU c s d,I J a,I J b] w λe m=>e= .returned (ve (Ea c s d a b))/\y5 w.heap.size w m:=by
 cases h:uy c s d a b
 ·unfold Ea;rw[h];exact SA c s d a b w l h
 ·unfold Ea;rw[h];obtain⟨g,S,f,A,B,rfl,rfl,rfl,rfl,rfl,i,hb,j⟩:=IG h;simp only[As,Qk];by_cases k:f=0
  ·exact S9 g S f A B w j i hb k
  ·exact Sx g S f A B w j i hb k
theorem IB (c s d a b:Int) (w:wR) (hs:s<=9223372036854775807) (i:d<=9223372036854775807):
 wS w1 159 #[aU c s d,I J a,I J b] w λe j=>e= .returned (ve (mulR c s d a b))/\y5 w.heap.size w j:=by
 cases h:uy c s d a b
 ·unfold mulR;rw[h];exact RI c s d a b w i h
 ·unfold mulR;rw[h];obtain⟨f,S,g,A,B,rfl,rfl,rfl,rfl,rfl,k,hb,l⟩:=IG h;simp only[As,Qk];exact Qq f S g A B w l k hb
theorem uu (c s a:Int) (w:wR) (hs:s<=9223372036854775807) (f:a<=9223372036854775807):
 wS w1 158 #[aU c s a] w λe g=>e= .returned (ve (xX c s a))/\y5 w.heap.size w g:=by
 cases h:bp c s a
 ·unfold xX;rw[h];exact Fk c s a w f h
 ·unfold xX;rw[h];obtain⟨b,S,d,rfl,rfl,rfl,i⟩:=wT h;simp only[As,Qk];exact CX b S d w i
end
end Go.Proofs.YtmnlkganmgcpbaaGreatDoor
