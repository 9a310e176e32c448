import Derived.Test.YtmnlkganmgcpbaaGreatDoorQk9
import Derived.Deep.OwnRows
set_option maxRecDepth 100000
set_option maxHeartbeats 4000000
set_option linter.unusedVariables false
set_option linter.unusedSectionVars false
set_option linter.unusedSimpArgs false
namespace Go.Proofs.YtmnlkganmgcpbaaGreatDoor
section
open Go.RowKit
theorem po (c s p a b:Int) (k:Nat) (w:World) (f:p<=9223372036854775807) (j:k<w.heap.size) (l:w.cell? ⟨k,0,none⟩=some (.int .i64 a)) (m:w.cell? ⟨k,1,none⟩=some (.int .i64 b)):
 Calls Tryz.prog 157 #[cu c s p,.slice (some ⟨k,0,none⟩) 2 2] w λe w'=>e= .returned (.bool (bK c s p&&gH s [a,b]))/\Below w.heap.size w w':=by
 cases g:bK c s p
 ·exact Ic c s p _ w f g
 ·refine L7 c s p [a,b] k w f g oS j ?_;intro i d
  match i,d with
  |0,_=>exact l
  |1,_=>exact m
  |n+2,d=>simp at d;omega
theorem CX (c s p:Int) (w:World) (a:p<=9223372036854775807):
 Calls Tryz.prog 157 #[cu c s p,.slice none 0 0] w λe w'=>e= .returned (.bool (bK c s p))/\Below w.heap.size w w':=by
 cases b:bK c s p
 ·exact Ic c s p _ w a b
 ·exact JM c s p w a b
abbrev tz (x:Int×Int):Value:= .tuple #[.int .i64 x.1,.int .i64 x.2]
theorem qB {c s p:Int} (h:bK c s p=true):∃C S P:Nat,c=C/\s=S/\p=P/\VF C S P:=by
 unfold bK at h;by_cases b:p=0
 ·rw[if_pos b]at h;simp only[Bool.and_eq_true,decide_eq_true_iff]at h;obtain⟨⟨⟨d,f⟩,e⟩,a⟩:=h;refine⟨c.toNat,s.toNat,0,by omega,by omega,by omega,.inl ⟨rfl,by omega,by omega,by omega,a⟩⟩
 ·rw[if_neg b]at h;simp only[Bool.and_eq_true,decide_eq_true_iff]at h;obtain⟨⟨⟨⟨d,f⟩,e⟩,a⟩,g⟩:=h;have hb:=px p d;have hs:s.toNat=2^(bl p.toNat-1):=by rw[a];exact Int.toNat_natCast _
  have i:s=(s.toNat:Int):=(Int.toNat_of_nonneg (by rw[a];exact Int.natCast_nonneg _)).symm;exact⟨2,s.toNat,p.toNat,e,i,by omega,.inr ⟨bl p.toNat-1,by omega,by omega,by omega,hs,rfl,g⟩⟩
theorem ej.alloc {w wr:World} {c s p:Int} (h:ej w c s p wr) (a:Obj):ej w c s p (wr.alloc a):=by
 have:=Below.heap_alloc wr a w.heap.size h.2.1;refine⟨h.1.alloc h.1.size _,by have:=h.2.1;simp;omega,?_,?_,?_⟩
 ·exact(World.cell?_of_block this).trans h.2.2.1
 ·exact(World.cell?_of_block this).trans h.2.2.2.1
 ·exact(World.cell?_of_block this).trans h.2.2.2.2
def zg (s a:Int):Bool:=decide (0<=a)&&decide (a<s)
def NC (c s p a:Int):Bool:=bK c s p&&zg s a
def sA (c s p a b:Int):Bool:=bK c s p&&zg s a&&zg s b
theorem sP (c s p a b:Int):(bK c s p&&gH s [a,b])=sA c s p a b:=by simp[gH,sA,zg,Bool.and_assoc]
theorem NY {c s p a:Int} (h:NC c s p a=true):∃C S P A:Nat,c=C/\s=S/\p=P/\a=A/\A<S/\VF C S P:=by
 unfold NC zg at h;simp only[Bool.and_eq_true,decide_eq_true_iff]at h;obtain⟨C,S,P,rfl,rfl,rfl,b⟩:=qB h.1;exact⟨C,S,P,a.toNat,rfl,rfl,rfl,by omega,by omega,b⟩
theorem EE {c s p a b:Int} (h:sA c s p a b=true):∃C S P A B:Nat,c=C/\s=S/\p=P/\a=A/\b=B/\A<S/\B<S/\VF C S P:=by
 unfold sA zg at h;simp only[Bool.and_eq_true,decide_eq_true_iff]at h;obtain⟨C,S,P,rfl,rfl,rfl,d⟩:=qB h.1.1;exact⟨C,S,P,a.toNat,b.toNat,rfl,rfl,rfl,by omega,by omega,by omega,by omega,d⟩
theorem kt {C S P:Nat} (h:VF C S P):bK C S P=true:=by
 have a:=h.aP;unfold bK;rcases h with⟨f,a,b,g,c⟩|⟨d,f,a,b,g,c,i⟩
 ·subst f;subst a;rw[if_pos (by rfl)];simp[c];omega
 ·have j:¬((P:Nat):Int)=0:=by
   intro h;have:P=0:=oO
   subst this;rw[fy]at b;omega
  have k:2<=P:=by
   rcases Nat.lt_or_ge P 2 with h|h
   ·have:P=1:=oO;subst this;have e:bl 1=1:=by decide
    omega
   ·exact h
  rw[if_neg j];subst g;subst c;simp only[Int.toNat_natCast,b,i,Bool.and_eq_true,decide_eq_true_iff];refine⟨⟨⟨⟨by omega,by omega⟩,rfl⟩,by simp⟩,trivial⟩
theorem Hu {S A:Nat} (h:A<S):zg S A=true:=by unfold zg;simp;omega
theorem gB {C S P A B:Nat} (h:VF C S P) (a:A<S) (hb:B<S):sA C S P A B=true:=by unfold sA;rw[kt h,Hu a,Hu hb];rfl
theorem Em {a b v e:Int} (c:a=v) (d:b=e):Ending.returned (.tuple #[.int .i64 a,.int .i64 b])= .returned (tz (v,e)):=by rw[c,d]
def BE (c s p a b:Int):Int×Int:=if sA c s p a b then((cF s.toNat p.toNat a.toNat b.toNat:Nat),0)else(0,1)
def mulR (c s p a b:Int):Int×Int:=if sA c s p a b then((aG s.toNat p.toNat a.toNat b.toNat:Nat),0)else(0,1)
noncomputable def vW (c s p:Int):Int×Int:=if bK c s p then((ay s.toNat p.toNat:Nat),0)else(0,1)
theorem Nc (c s p a b:Int) (w:World) (g:p<=9223372036854775807) (h:sA c s p a b=false):
 Calls Tryz.prog 117 #[cu c s p,.int .i64 a,.int .i64 b] w λe w'=>e= .returned (tz (0,1))/\Below w.heap.size w w':=by
 have i:Hid ((bK c s p&&gH s [a,b])=false):=(sP c s p a b).trans h;clear h;go_enter Tryz.func117,Tryz.ntmps117;go_wp2_with fail
 refine(po c s p a b _ _ g oS (by go_simp) (by go_simp)).mono ?_;rintro e k ⟨rfl,f⟩;rw[i.out];have d:=ej.step (ej.alloc (ej.start w c s p 89) (.cells #[.int .i64 a,.int .i64 b] 3)) f;obtain⟨-,l,m,n,o⟩:=id d;have j:=Lib.hid d;clear d f;go_wp2_with fail
 go_ret2
 exact⟨rfl,j.out.below⟩
theorem MS (c s p a b:Int) (w:World) (g:p<=9223372036854775807) (h:sA c s p a b=false):
 Calls Tryz.prog 159 #[cu c s p,.int .i64 a,.int .i64 b] w λe w'=>e= .returned (tz (0,1))/\Below w.heap.size w w':=by
 have i:Hid ((bK c s p&&gH s [a,b])=false):=(sP c s p a b).trans h;clear h;go_enter Tryz.func159,Tryz.ntmps159;go_wp2_with fail
 refine(po c s p a b _ _ g oS (by go_simp) (by go_simp)).mono ?_;rintro e k ⟨rfl,f⟩;rw[i.out];have d:=ej.step (ej.alloc (ej.start w c s p 89) (.cells #[.int .i64 a,.int .i64 b] 3)) f;obtain⟨-,l,m,n,o⟩:=id d;have j:=Lib.hid d;clear d f;go_wp2_with fail
 go_ret2
 exact⟨rfl,j.out.below⟩
theorem BZ (c s p:Int) (w:World) (d:p<=9223372036854775807) (h:bK c s p=false):
 Calls Tryz.prog 158 #[cu c s p] w λe w'=>e= .returned (tz (0,1))/\Below w.heap.size w w':=by
 have f:=Lib.hid h;clear h;go_enter Tryz.func158,Tryz.ntmps158;go_wp2_with fail
 refine(CX c s p _ d).mono ?_;rintro e i ⟨rfl,b⟩;rw[f.out];have a:=ej.step (ej.start w c s p 89) b;obtain⟨-,j,k,l,m⟩:=id a;have g:=Lib.hid a;clear a b;go_wp2_with fail
 go_ret2
 exact⟨rfl,g.out.below⟩
theorem VF.tU {C S P:Nat} (h:VF C S P):(P:Int)<=9223372036854775807:=by
 rcases h with⟨a,_⟩|⟨d,_,a,b,_⟩
 ·omega
 ·have:=(bB P 13).1 oO;omega
theorem MK (C S P A B:Nat) (w:World) (a:VF C S P) (f:A<S) (hb:B<S) (b:P=0):
 Calls Tryz.prog 117 #[cu C S P,.int .i64 A,.int .i64 B] w λe w'=>e= .returned (tz ((cF S P A B:Nat),0))/\Below w.heap.size w w':=by
 have l:=a.le;have n:=a.aP;have g:(P:Int)<=9223372036854775807:=a.tU;have i:Hid ((bK C S P&&gH S [(A:Int),(B:Int)])=true):=(sP _ _ _ _ _).trans (gB a f hb);have o:(((P:Nat):Int)!=0)=false:=by rw[b];rfl
 have j:Hid (((A:Int)-B+S)%S=((cF S P A B:Nat):Int)):=by
  show _=_;unfold cF;rw[if_pos b,Int.natCast_emod];exact congrArg (λx=>x%(S:Int)) oO
 clear b a;go_enter Tryz.func117,Tryz.ntmps117;go_wp2_with fail
 refine(po C S P A B _ _ g oS (by go_simp) (by go_simp)).mono ?_;rintro e m ⟨rfl,d⟩;rw[i.out];have c:=ej.step (ej.alloc (ej.start w C S P 89) (.cells #[.int .i64 A,.int .i64 B] 3)) d;obtain⟨-,p,q,r,s⟩:=id c;have k:=Lib.hid c;clear c d;go_wp2_with fail
 go_ret2
 exact⟨Em j.out rfl,k.out.below⟩
theorem M1 (C S P A B:Nat) (w:World) (a:VF C S P) (f:A<S) (hb:B<S) (c:P≠0):
 Calls Tryz.prog 117 #[cu C S P,.int .i64 A,.int .i64 B] w λe w'=>e= .returned (tz ((cF S P A B:Nat),0))/\Below w.heap.size w w':=by
 have l:=a.le;have n:=a.aP;have g:(P:Int)<=9223372036854775807:=a.tU;have i:Hid ((bK C S P&&gH S [(A:Int),(B:Int)])=true):=(sP _ _ _ _ _).trans (gB a f hb);have o:(((P:Nat):Int)!=0)=true:=by rw[bne_iff_ne];omega
 have j:Hid (bits BinOp.xor IntKind.i64 (A:Int) (B:Int)=((cF S P A B:Nat):Int)):=by
  show _=_;unfold cF;rw[if_neg c];exact iQ A B oO oO
 clear c a;go_enter Tryz.func117,Tryz.ntmps117;go_wp2_with fail
 refine(po C S P A B _ _ g oS (by go_simp) (by go_simp)).mono ?_;rintro e m ⟨rfl,d⟩;rw[i.out];have b:=ej.step (ej.alloc (ej.start w C S P 89) (.cells #[.int .i64 A,.int .i64 B] 3)) d;obtain⟨-,p,q,r,s⟩:=id b;have k:=Lib.hid b;clear b d;go_wp2_with fail
 go_ret2
 exact⟨Em j.out rfl,k.out.below⟩
theorem L1 (C S P A B:Nat) (w:World) (a:VF C S P) (g:A<S) (hb:B<S):
 Calls Tryz.prog 159 #[cu C S P,.int .i64 A,.int .i64 B] w λe w'=>e= .returned (tz ((aG S P A B:Nat),0))/\Below w.heap.size w w':=by
 have n:=a.le;have q:=a.aP;have i:(P:Int)<=9223372036854775807:=a.tU;have j:Hid ((bK C S P&&gH S [(A:Int),(B:Int)])=true):=(sP _ _ _ _ _).trans (gB a g hb);have k:=Lib.hid a;clear a;go_enter Tryz.func159,Tryz.ntmps159;go_wp2_with fail
 refine(po C S P A B _ _ i oS (by go_simp) (by go_simp)).mono ?_;rintro e o ⟨rfl,d⟩;rw[j.out];have b:=ej.step (ej.alloc (ej.start w C S P 89) (.cells #[.int .i64 A,.int .i64 B] 3)) d;obtain⟨-,r,s,t,u⟩:=id b;have l:=Lib.hid b;clear b d;go_wp2_with fail
 refine(uU C S P _ _ _ k.out oO oO oO oO).mono ?_;rintro e p ⟨rfl,f⟩;have c:=ej.step l.out f;obtain⟨-,v,x,y,z⟩:=id c;have m:=Lib.hid c;clear c f;go_wp2_with fail
 go_ret2
 exact⟨rfl,m.out.below⟩
theorem Ak (C S P:Nat) (w:World) (a:VF C S P):
 Calls Tryz.prog 158 #[cu C S P] w λe w'=>e= .returned (tz ((ay S P:Nat),0))/\Below w.heap.size w w':=by
 have m:=a.le;have p:=a.aP;have g:(P:Int)<=9223372036854775807:=a.tU;have i:Hid (bK C S P=true):=kt a;have j:=Lib.hid a;clear a;go_enter Tryz.func158,Tryz.ntmps158;go_wp2_with fail
 refine(CX C S P _ g).mono ?_;rintro e n ⟨rfl,d⟩;rw[i.out];have b:=ej.step (ej.start w C S P 89) d;obtain⟨-,q,r,s,t⟩:=id b;have k:=Lib.hid b;clear b d;go_wp2_with fail
 refine(Ah C S P _ j.out).mono ?_;rintro e o ⟨rfl,f⟩;have c:=ej.step k.out f;obtain⟨-,u,v,x,y⟩:=id c;have l:=Lib.hid c;clear c f;go_wp2_with fail
 go_ret2
 exact⟨rfl,l.out.below⟩
theorem L6 (c s p a b:Int) (w:World) (hs:s<=9223372036854775807) (i:p<=9223372036854775807):
 Calls Tryz.prog 117 #[cu c s p,.int .i64 a,.int .i64 b] w λe w'=>e= .returned (tz (BE c s p a b))/\Below w.heap.size w w':=by
 cases h:sA c s p a b
 ·unfold BE;rw[h];exact Nc c s p a b w i h
 ·unfold BE;rw[h];obtain⟨C,S,P,A,B,rfl,rfl,rfl,rfl,rfl,d,hb,f⟩:=EE h;simp only[Int.toNat_natCast,if_true];by_cases g:P=0
  ·exact MK C S P A B w f d hb g
  ·exact M1 C S P A B w f d hb g
theorem iA (c s p a b:Int) (w:World) (hs:s<=9223372036854775807) (d:p<=9223372036854775807):
 Calls Tryz.prog 159 #[cu c s p,.int .i64 a,.int .i64 b] w λe w'=>e= .returned (tz (mulR c s p a b))/\Below w.heap.size w w':=by
 cases h:sA c s p a b
 ·unfold mulR;rw[h];exact MS c s p a b w d h
 ·unfold mulR;rw[h];obtain⟨C,S,P,A,B,rfl,rfl,rfl,rfl,rfl,f,hb,g⟩:=EE h;simp only[Int.toNat_natCast,if_true];exact L1 C S P A B w g f hb
theorem sB (c s p:Int) (w:World) (hs:s<=9223372036854775807) (a:p<=9223372036854775807):
 Calls Tryz.prog 158 #[cu c s p] w λe w'=>e= .returned (tz (vW c s p))/\Below w.heap.size w w':=by
 cases h:bK c s p
 ·unfold vW;rw[h];exact BZ c s p w a h
 ·unfold vW;rw[h];obtain⟨C,S,P,rfl,rfl,rfl,b⟩:=qB h;simp only[Int.toNat_natCast,if_true];exact Ak C S P w b
abbrev j9 (c s p e:Int):Value:= .tuple #[.agg #[.int .i64 c,.int .i64 s,.int .i64 p],.int .i64 e]
def AM (d p:Int):Bool:=decide (1<=d)&&decide (d<=12)&&uC p d
theorem DT (d p:Int) (a:1<=d) (b:d<=12):bK 2 ((2^d.toNat:Nat):Int) p=uC p d:=by
 obtain⟨D,rfl⟩:=Int.eq_ofNat_of_zero_le (by omega:0<=d);rw[J4,Int.toNat_natCast,Int.toNat_natCast,xD];have e:(((D+1:Nat):Int)-1)=(D:Int):=oO;rw[e,show D+1-1=D from by omega];simp;intro _;omega
theorem CM (d p:Int) (w:World) (h:d<1\/12<d):
 Calls Tryz.prog 110 #[.int .i64 d,.int .i64 p] w λe w'=>e= .returned (j9 0 0 0 3)/\Below w.heap.size w w':=by
 rcases h with h|h
 ·go_enter Tryz.func110,Tryz.ntmps110;go_wp2;exact bodyPost_ret (v:=j9 0 0 0 3) (by simp[results,Tryz.results110,go_sem]) rfl ⟨rfl,(Below.refl _ _).alloc (Nat.le_refl _) _⟩
 ·have a:¬d<1:=oO;go_enter Tryz.func110,Tryz.ntmps110;go_wp2;exact bodyPost_ret (v:=j9 0 0 0 3) (by simp[results,Tryz.results110,go_sem]) rfl ⟨rfl,(Below.refl _ _).alloc (Nat.le_refl _) _⟩
theorem Gt (d p s:Int) (w:World) (m:1<=d) (n:d<=12) (k:p<=9223372036854775807) (hs:wrap64 (2^d.toNat)=s) (ok:Bool) (j:bK 2 s p=ok):
 Calls Tryz.prog 110 #[.int .i64 d,.int .i64 p] w λe w'=>e= .returned (if ok then j9 2 s p 0 else j9 0 0 0 38)/\Below w.heap.size w w':=by
 have l:=Lib.hid j;clear j;go_enter Tryz.func110,Tryz.ntmps110;go_wp2_with fail
 refine(jn _ _ _ _ k).mono ?_;rintro e a ⟨rfl,c⟩;rw[l.out];obtain⟨b,f⟩:=KK c;have c0:a.cell? ⟨w.heap.size,0,none⟩=some (.int .i64 0):=by rw[b _ _ oT];go_simp
 have c1:a.cell? ⟨w.heap.size,1,none⟩=some (.int .i64 0):=by rw[b _ _ oT];go_simp
 have g:a.cell? ⟨w.heap.size,2,none⟩=some (.int .i64 0):=by rw[b _ _ oT];go_simp
 have o:a.frozen? ⟨w.heap.size,0,none⟩=false:=by rw[f _ _ oT];go_simp
 have q:a.frozen? ⟨w.heap.size,1,none⟩=false:=by rw[f _ _ oT];go_simp
 have r:a.frozen? ⟨w.heap.size,2,none⟩=false:=by rw[f _ _ oT];go_simp
 have y:w.heap.size+1<a.heap.size:=by have:=c.size;simp at this;omega
 have t:a.cell? ⟨w.heap.size+1,0,none⟩=some (.int .i64 2):=by rw[b _ _ oS];go_simp
 have u:a.cell? ⟨w.heap.size+1,1,none⟩=some (.int .i64 s):=by rw[b _ _ oS];go_simp
 have x:a.cell? ⟨w.heap.size+1,2,none⟩=some (.int .i64 p):=by rw[b _ _ oS];go_simp
 have i:Hid (Below w.heap.size w a):=(((Below.refl _ _).alloc (Nat.le_refl _) _).alloc oS _).trans (c.mono oT);clear b f c;cases ok
 ·go_wp2;exact bodyPost_ret (v:=j9 0 0 0 38) (by simp[results,Tryz.results110,go_sem,c0,c1,g]) rfl ⟨rfl,((i.out.setCell oS _).setCell oS _).setCell oS _⟩
 ·go_wp2;exact bodyPost_ret (v:=j9 2 s p 0) (by simp[results,Tryz.results110,go_sem,c0,c1,g]) rfl ⟨rfl,((i.out.setCell oS _).setCell oS _).setCell oS _⟩
def pq (d p:Int):Value:=if AM d p then j9 2 ((2^d.toNat:Nat):Int) p 0 else if 1<=d/\d<=12 then j9 0 0 0 38 else j9 0 0 0 3
theorem GJ (d:Int) (a:1<=d) (b:d<=12):wrap64 (2^d.toNat)=((2^d.toNat:Nat):Int):=NM d.toNat oO
theorem mg (d p:Int) (w:World) (a:p<=9223372036854775807):
 Calls Tryz.prog 110 #[.int .i64 d,.int .i64 p] w λe w'=>e= .returned (pq d p)/\Below w.heap.size w w':=by
 by_cases h:1<=d/\d<=12
 ·refine(Gt d p _ w h.1 h.2 a (GJ d h.1 h.2) _ rfl).mono ?_;rintro e w' ⟨rfl,hb⟩;refine⟨?_,hb⟩;unfold pq AM;rw[DT d p h.1 h.2];cases uC p d<;>simp[h.1,h.2]
 ·have:pq d p=j9 0 0 0 3:=by
   unfold pq AM;rw[if_neg oT,if_neg h]
  rw[this];exact CM d p w oO
def RD (w:World) (A:Option Addr) (xs:List Int):Prop:=
 0<xs.length->∃a,A=some a/\a.block<w.heap.size/\∀j,j<xs.length->w.cell? (a.add j)=some (.int .i64 (xs.getD j 0))
theorem RD.below {W a:World} {A:Option Addr} {xs:List Int} (h:RD W A xs) (hb:Below W.heap.size W a):RD a A xs:=λhn=>by
 obtain⟨b,e,hl,hc⟩:=h hn;exact⟨b,e,Nat.lt_of_lt_of_le hl hb.size,λj c=>(hb.cell (by rw[aJ];exact hl)).trans (hc j c)⟩
theorem RD.alloc {W:World} {A:Option Addr} {xs:List Int} (h:RD W A xs) (a:Obj):RD (W.alloc a) A xs:=h.below ((Below.refl _ _).alloc (Nat.le_refl _) a)
theorem RD.dI (W:World) (A:Option Addr):RD W A []:=λh=>absurd h oS
theorem RD.cd {W:World} {base:Nat} {e:TypeId} {n:Nat} {A:Option Addr} {c:Nat} {xs:List Int} (h:W.ownsRow base e 1 (.slice A n c) n (xs.map (Value.int .i64))):RD W A xs:=λhn=>by
 have hl:xs.length=n:=by have:=h.1;simpa using this
 obtain⟨g,cap,a,_,f⟩:=h.form oO;have b:A=some ⟨g,0,none⟩:=by injection a
 subst b;refine⟨_,rfl,f,λj d=>h.cells (g:=g) rfl j _ ?_⟩;simp[List.getD,d]
def zl (l:List Nat):List Int:=l.map (λn:Nat=>(n:Int))
theorem aw (l:List Nat):(zl l).length=l.length:=by simp[zl]
theorem cT (l:List Nat) (i:Nat):(zl l).getD i 0=((l.getD i 0:Nat):Int):=by
 unfold zl;by_cases h:i<l.length
 ·simp[List.getD,h]
 ·simp[List.getD,List.getElem?_eq_none (show l.length<=i by omega)]
def aA (w:World) (v:Value) (xs:List Int):Prop:=∃A c,v= .slice A xs.length c/\xs.length<=c/\c<=maxLen/\RD w A xs
theorem aA.below {W a:World} {v:Value} {xs:List Int} (h:aA W v xs) (hb:Below W.heap.size W a):aA a v xs:=by
 obtain⟨A,c,rfl,b,d,e⟩:=h;exact⟨A,c,rfl,b,d,e.below hb⟩
theorem aA.dI (w:World):aA w (.slice none 0 0) []:=⟨none,0,rfl,by simp,by simp,RD.dI _ _⟩
theorem aA.cd {W:World} {base:Nat} {e:TypeId} {n:Nat} {v:Value} {xs:List Int} (h:W.ownsRow base e 1 v n (xs.map (Value.int .i64))):aA W v xs:=by
 have hl:xs.length=n:=by have:=h.1;simpa using this
 rcases h.2 with⟨rfl,rfl⟩|⟨g,cap,a,rfl,_,_,b,lH,_⟩
 ·have:xs=[]:=List.eq_nil_of_length_eq_zero hl;subst this;exact aA.dI _
 ·refine⟨_,cap,by rw[hl],by omega,lH,RD.cd h⟩
theorem rB {s:Int} {xs:List Int} {k:Nat} (a:k<xs.length) (h:¬(0<=xs.getD k 0/\xs.getD k 0<s)):gH s xs=false:=by
 unfold gH;rw[List.all_eq_false];refine⟨xs[k],List.getElem_mem a,?_⟩;have e:xs.getD k 0=xs[k]:=by simp[List.getD,a]
 rw[e]at h;simpa[Classical.not_and_iff_not_or_not]using h
theorem yA {s:Int} {xs:List Int} (h:∀j,j<xs.length->0<=xs.getD j 0/\xs.getD j 0<s):gH s xs=true:=by
 unfold gH;rw[List.all_eq_true];intro a c;obtain⟨j,b,rfl⟩:=List.getElem_of_mem c;have:=h j b;rw[List.getD_eq_getElem?_getD,List.getElem?_eq_getElem b]at this;simpa using this
theorem C0 (c s p:Int) (xs:List Int) (A:Option Addr) (q:Nat) (w:World) (v:xs.length<=9223372036854775807) (l:RD w A xs):
 Calls Tryz.prog 190 #[cu c s p,.slice A xs.length q] w λe w'=>e= .returned (.bool (gH s xs))/\Below w.heap.size w w':=by
 have r:=Lib.hid (l.alloc (.cells #[.int .i64 c,.int .i64 s,.int .i64 p] 89));clear l;generalize hn:xs.length=n at*;have a:=Lib.hid hn;clear hn;go_enter Tryz.func190,Tryz.ntmps190;go_wp2;go_loop [6,9] (λ_ i=>∃k:Nat,k<=n/\i= .int .i64 k/\Hid (∀j,j<k->0<=xs.getD j 0/\xs.getD j 0<s)) (λ_ i=>n-(intOf i).toNat)
 case atStart=>exact⟨0,Nat.zero_le _,rfl,λj t=>by omega⟩
 case round=>
  obtain⟨k,y,rfl,hid⟩:=hrel;have g:Hid (Below w.heap.size w (w.alloc (.cells #[.int .i64 c,.int .i64 s,.int .i64 p] 89))):=(Below.refl _ _).alloc (Nat.le_refl _) _;by_cases f:k<n
  ·obtain⟨z,rfl,-,o⟩:=r.out (by rw[a.out];omega);have D:=o k (by rw[a.out];exact f);clear o;generalize m:xs.getD k 0=x at*;have d:=Lib.hid m;clear m;by_cases B:x<0
   ·have b:=Lib.hid (rB (s:=s) (k:=k) (by rw[a.out];exact f) (by rw[d.out];omega));go_wp2;go_ret;exact⟨bM b.out.symm,g.out⟩
   ·by_cases C:s<=x
    ·have b:=Lib.hid (rB (s:=s) (k:=k) (by rw[a.out];exact f) (by rw[d.out];omega));go_wp2;go_ret;exact⟨bM b.out.symm,g.out⟩
    ·go_wp2;refine⟨⟨k+1,by omega,by go_num,?_⟩,by simp[intOf];omega⟩;intro j t;by_cases u:j=k
     ·subst u;rw[d.out];omega
     ·exact hid.out j oO
  ·obtain rfl:k=n:=oO;have b:=Lib.hid (yA (s:=s) (xs:=xs) (by rw[a.out];exact hid.out));go_wp2;go_ret;exact⟨bM b.out.symm,g.out⟩
abbrev fs (C S a bl:Nat):Value:= .agg #[.int .i64 C,.int .i64 S,.slice (some ⟨a,0,none⟩) (S-1) (S-1),.slice (some ⟨bl,0,none⟩) S S]
abbrev lu (C S a bl:Nat):Obj:= .cells #[.int .i64 C,.int .i64 S,.slice (some ⟨a,0,none⟩) (S-1) (S-1),.slice (some ⟨bl,0,none⟩) S S] 200
def dh (w:World) (S P a bl:Nat):Prop:=a<w.heap.size/\bl<w.heap.size/\(∀i,i<S-1->w.cell? ⟨a,i,none⟩=some (.int .i64 ((fpowN S P (ay S P) i:Nat):Int)))/\
 (∀x,x<S->x≠0->w.cell? ⟨bl,x,none⟩=some (.int .i64 ((eo S P x:Nat):Int)))
theorem dh.below {W a:World} {S P b bl:Nat} (h:dh W S P b bl) (hb:Below W.heap.size W a):dh a S P b bl:=
 ⟨Nat.lt_of_lt_of_le h.1 hb.size,Nat.lt_of_lt_of_le h.2.1 hb.size,λi c=>(hb.cell h.1).trans (h.2.2.1 i c),λx d e=>(hb.cell h.2.1).trans (h.2.2.2 x d e)⟩
theorem dh.alloc {W:World} {S P b bl:Nat} (h:dh W S P b bl) (a:Obj):dh (W.alloc a) S P b bl:=h.below ((Below.refl _ _).alloc (Nat.le_refl _) a)
theorem VF.Fx {C S P:Nat} (h:VF C S P):(C=2/\P≠0)\/(C≠2/\P=0):=by
 rcases h with⟨b,c,a,_⟩|⟨d,b,_,c,_,a,_⟩
 ·right;omega
 ·left;refine⟨a,?_⟩;rintro rfl;have:bl 0=0:=by decide
  omega
theorem Ck (C S P g bl x y:Nat) (w:World) (a:VF C S P) (i:x<S) (j:y<S) (k:dh w S P g bl):
 Calls Tryz.prog 194 #[fs C S g bl,.int .i64 x,.int .i64 y] w λe w'=>e= .returned (.int .i64 ((aG S P x y:Nat):Int))/\Below w.heap.size w w':=by
 have o:Hid (Below w.heap.size w (w.alloc (lu C S g bl))):=(Below.refl _ _).alloc (Nat.le_refl _) _;by_cases d:x=0
 ·subst d;have n:=Lib.hid (pS a j);clear a k;go_enter Tryz.func194,Tryz.ntmps194;go_wp2;go_ret;exact⟨cS (by rw[n.out];rfl),o.out⟩
 by_cases f:y=0
 ·subst f;have n:=Lib.hid (pP a i);clear a k;go_enter Tryz.func194,Tryz.ntmps194;go_wp2;go_ret;exact⟨cS (by rw[n.out];rfl),o.out⟩
 have s:=a.le;have B:=a.aP;have t:=(dY a i d).1;have u:=(dY a j f).1;have l:=k.alloc (lu C S g bl);have c1:=l.2.2.2 x i d;have v:=l.2.2.2 y j f;have p:(eo S P x+eo S P y)%(S-1)<S-1:=Nat.mod_lt _ oO;have q:=l.2.2.1 _ p;rw[DX a i j d f]at q;generalize aG S P x y=r at*;generalize eo S P x=b at*;generalize eo S P y=c at*;have e1:((b:Int)+c).tmod ((S:Int)-1)=(((b+c)%(S-1):Nat):Int):=by
  rw[show(b:Int)+c=((b+c:Nat):Int)from by omega,show(S:Int)-1=((S-1:Nat):Int)from by omega];exact(Int.ofNat_tmod _ _).symm
 generalize(b+c)%(S-1)=m at*;have e2:IntKind.i64.wrap ((b:Int)+c)=(b:Int)+c:=aF _ oO oO;have z:((x:Int)==0)=false:=by rw[beq_eq_false_iff_ne];omega
 have A:((y:Int)==0)=false:=by rw[beq_eq_false_iff_ne];omega
 clear l k a d f;go_enter Tryz.func194,Tryz.ntmps194;go_wp2;go_quiet (fail)
 go_wp2;go_ret;exact⟨rfl,cZ o.out _⟩
theorem Jw (C S P g bl x y:Nat) (w:World) (c:VF C S P) (i:x<S) (j:y<S) (d:y≠0) (l:dh w S P g bl):
 Calls Tryz.prog 192 #[fs C S g bl,.int .i64 x,.int .i64 y] w λe w'=>e= .returned (.int .i64 ((aG S P x (dP S P y):Nat):Int))/\Below w.heap.size w w':=by
 have n:Hid (Below w.heap.size w (w.alloc (lu C S g bl))):=(Below.refl _ _).alloc (Nat.le_refl _) _;by_cases f:x=0
 ·subst f;have o:=Lib.hid (pS c (mN c (x:=y)));clear c l j i d;go_enter Tryz.func192,Tryz.ntmps192;go_wp2;go_ret;exact⟨cS (by rw[o.out];rfl),n.out⟩
 have s:=c.le;have A:=c.aP;have t:=(dY c i f).1;have u:=(dY c j d).1;have k:=l.alloc (lu C S g bl);have c1:=k.2.2.2 x i f;have v:=k.2.2.2 y j d;have p:(eo S P x+(S-1)-eo S P y)%(S-1)<S-1:=Nat.mod_lt _ oO;have q:=k.2.2.1 _ p;rw[D3 c i j f d]at q;generalize aG S P x (dP S P y)=r at*;generalize eo S P x=a at*;generalize eo S P y=b at*;have e1:((a:Int)-b+S-1).tmod ((S:Int)-1)=(((a+(S-1)-b)%(S-1):Nat):Int):=by
  rw[show(a:Int)-b+S-1=((a+(S-1)-b:Nat):Int)from by omega,show(S:Int)-1=((S-1:Nat):Int)from by omega];exact(Int.ofNat_tmod _ _).symm
 generalize(a+(S-1)-b)%(S-1)=m at*;have e2:IntKind.i64.wrap ((a:Int)-b)=(a:Int)-b:=aF _ oO oO;have e3:IntKind.i64.wrap ((a:Int)-b+S)=(a:Int)-b+S:=aF _ oO oO;have e4:IntKind.i64.wrap ((a:Int)-b+S-1)=(a:Int)-b+S-1:=aF _ oO oO;have z:((x:Int)==0)=false:=by rw[beq_eq_false_iff_ne];omega
 clear k l c f d;go_enter Tryz.func192,Tryz.ntmps192;go_wp2;go_quiet (fail)
 go_wp2;go_ret;exact⟨rfl,cZ n.out _⟩
theorem Be (C S P c bl x y:Nat) (w:World) (a:VF C S P) (i:x<S) (j:y<S):
 Calls Tryz.prog 193 #[fs C S c bl,.int .i64 x,.int .i64 y] w λe w'=>e= .returned (.int .i64 ((cF S P x y:Nat):Int))/\Below w.heap.size w w':=by
 have f:Hid (Below w.heap.size w (w.alloc (lu C S c bl))):=(Below.refl _ _).alloc (Nat.le_refl _) _;have k:=a.le;rcases a.Fx with⟨rfl,d⟩|⟨g,rfl⟩
 ·have b:Hid (bits BinOp.xor IntKind.i64 (x:Int) (y:Int)=((cF S P x y:Nat):Int)):=by
   show _=_;rw[iQ _ _ oO oO];unfold cF;rw[if_neg d]
  clear a d;go_enter Tryz.func193,Tryz.ntmps193;go_wp2;go_ret;exact⟨cS b.out,f.out⟩
 ·have m:=a.aP;have b:Hid (((x:Int)-y+S)%S=((cF S 0 x y:Nat):Int)):=by
   show _=_;unfold cF;rw[if_pos rfl,show(x:Int)-y+S=((x+S-y:Nat):Int)from by omega];exact(Int.natCast_emod _ _).symm
  have l:((C:Int)==2)=false:=by rw[beq_eq_false_iff_ne];omega
  clear a g;go_enter Tryz.func193,Tryz.ntmps193;go_wp2;go_ret;exact⟨cS b.out,f.out⟩
theorem Jv (ys:List Int):∀u∈ys.map (Value.int .i64),u.oneCell'=true:=by
 intro u a;obtain⟨y,_,rfl⟩:=List.mem_map.1 a;rfl
section
variable {P : Program} (w : World)
theorem xF (base:Nat) (a f e:TypeId) (i:TypeInfo) (b:P.underlying a=some (.slice e)) (d:P.info? e=some i)
 (v:Value) (n:Nat) (xs:List Value) (k:w.ownsRow base e 1 v n xs) (c:Nat):(Builtin.append_ #[a,a] f #[v,.slice none 0 c]).run P w= .ok v w:=by
 rcases k.2 with⟨rfl,rfl⟩|⟨g,cap,l,rfl,_,_,j,_⟩
 ·simp[Builtin.append_,run_underlying b,sizeOf,typeInfo,d,Builtin.lenOf,Builtin.firstCells]
 ·simp[Builtin.append_,run_underlying b,sizeOf,typeInfo,d,Builtin.lenOf,Builtin.firstCells,j,storeCells]
theorem vm (base:Nat) (b d e:TypeId) (i:TypeInfo) (z:Value) (k:P.underlying b=some (.slice e)) (l:P.info? e=some i) (q:i.zero=some z)
 (J:i.size=1) (E:i.bytes=8) (F:z.cells.size=1)
 (v:Value) (n:Nat) (xs:List Int) (g:w.ownsRow base e 1 v n (xs.map (Value.int .i64)))
 (A:Option Addr) (m c:Nat) (ys:List Int) (r:m=ys.length) (s:RD w A ys) (t:A=none->m=0)
 (G:(n+m)* 8<=140737488355328) (K:base<=w.heap.size):
 ∃a w',(Builtin.append_ #[b,b] d #[v,.slice A m c]).run P w= .ok a w'/\w'.ownsRow base e 1 a (n+m) ((xs++ys).map (Value.int .i64))/\w.grownBy w' v.ownBlock/\
  (a.ownBlock=v.ownBlock\/a.ownBlock=some w.heap.size):=by
 subst r;rcases A with _|o
 ·have x:=t rfl;have y:ys=[]:=List.eq_nil_of_length_eq_zero x;subst y;exact⟨v,w,xF w base b d e i k l v n _ g c,by simpa using g,World.grownBy.refl w _,.inl rfl⟩
 ·have L:∀j u,(ys.map (Value.int .i64))[j]?=some u->w.cell? (o.add j)=some u:=by
   intro j u f;have p:j<ys.length:=by
    rcases Nat.lt_or_ge j ys.length with h|h
    ·exact h
    ·rw[List.getElem?_eq_none (by simpa using h)]at f;cases f
   obtain⟨M,h,_,hc⟩:=s oO;injection h with h;subst h;rw[hc j p];simpa[List.getD,p]using f
  obtain⟨a,w',H,B,C,_,D⟩:=run_append_own_at (P:=P) w base b d e i z 1 8 k l q J E F oO v n _ g o ys.length c (ys.map (Value.int .i64)) oS L (Jv ys)
   (by simp only[maxLen];omega) G K
  exact⟨a,w',H,by rw[List.map_append];exact B,C,D⟩
omit w in
theorem fR {w:World} {ops:Array Oper} {rest:List Oper} {o:Oper} {a:Act} {Q:Exit->Act->World->Prop} (hgd:o.guard=none) (s x:Operand) (t:TypeId)
 (ho:o.op= .call {callee:= .builtin .append,args:=#[s,x],argTypes:=#[t,t]})
 (base:Nat) (e:TypeId) (i:TypeInfo) (z:Value) (ht:P.underlying t=some (.slice e)) (hi:P.info? e=some i) (hz:i.zero=some z)
 (hsize:i.size=1) (hby:i.bytes=8) (hzs:z.cells.size=1)
 (v:Value) (n:Nat) (xs:List Int) (hs:a.eval s=v) (hown:w.ownsRow base e 1 v n (xs.map (Value.int .i64)))
 (A:Option Addr) (m c:Nat) (ys:List Int) (hx:a.eval x= .slice A m c) (hm:m=ys.length) (hr:RD w A ys)
 (h63:(n+m)* 8<=140737488355328) (hbase:base<=w.heap.size)
 (h:∀v' w',w'.ownsRow base e 1 v' (n+m) ((xs++ys).map (Value.int .i64))->w.grownBy w' v.ownBlock->(v'.ownBlock=v.ownBlock\/v'.ownBlock=some w.heap.size)->wpList P ops Q rest (a.put o.dst v') w'):
 wpList P ops Q (o::rest) a w:=by
 refine wpList_plain hgd λK hK=>?_;have hA:A=none->m=0:=by
  intro h0;rcases Nat.eq_zero_or_pos m with h1|h1
  ·exact h1
  ·obtain⟨ad,h2,_⟩:=hr oO;rw[h0]at h2;cases h2
 obtain⟨v',w',hrun,h2,h3,h4⟩:=vm (P:=P) w base t o.type e i z ht hi hz hsize hby hzs v n xs hown A m c ys hm hr hA h63 hbase;unfold Oper.wp execOp;simp only[ho,resolve,invoke,builtin,Sem.run_bind,Sem.run_pure,Result.andThen_ok,List.map_toArray,List.map_cons,List.map_nil,hs,hx,hrun];exact hK _ _ (h v' w' h2 h3 h4)
end
def tlI (l:List Int):Nat->Nat
 |0=>0
 |n+1=>if l.getD n 0=0 then tlI l n else n+1
def uv (l:List Int):List Int:=l.take (tlI l l.length)
theorem Mz (l:List Nat) (n:Nat):tlI (zl l) n=tl l n:=by
 induction n with
 |zero=>rfl
 |succ n a=>unfold tlI tl;rw[cT,a];simp
theorem Kl (l:List Nat):uv (zl l)=zl (dX l):=by
 unfold uv dX;rw[aw,Mz];unfold zl;rw[List.map_take]
theorem RD.take {w:World} {A:Option Addr} {xs:List Int} (h:RD w A xs) (k:Nat):RD w A (xs.take k):=λhn=>by
 rw[List.length_take]at hn;obtain⟨a,e,hl,hc⟩:=h oO;refine⟨a,e,hl,λj b=>?_⟩;rw[List.length_take]at b;rw[hc j oO];simp[List.getD,show j<k by omega]
theorem Jk (xs:List Int) (A:Option Addr) (y:Nat) (w:World) (H:xs.length* 8<=140737488355328) (L:xs.length<=y) (z:RD w A xs):
 Calls Tryz.prog 116 #[.slice A xs.length y] w λe w'=>∃v,e= .returned v/\aA w' v (uv xs)/\Below w.heap.size w w':=by
 obtain⟨o,p,r,s,t⟩:=info_parts dg;have c:=Lib.hid z;clear z;generalize hn:xs.length=n at*;have d:=Lib.hid hn;clear hn;go_enter Tryz.func116,Tryz.ntmps116;go_wp2;go_loop [3] (λi=>∃k:Nat,k<=n/\i= .int .i64 k/\Hid (tlI xs n=tlI xs k)) (λi=>(intOf i).toNat)
 case atStart=>exact⟨n,Nat.le_refl _,rfl,rfl⟩
 case round=>
  obtain⟨k,J,rfl,hid⟩:=hrel;have u:Hid (∀(m:Nat) (q:Value) (w':World),m=tlI xs n->w'.ownsRow w.heap.size 3 1 q (0+m) (([]++xs.take m).map (Value.int .i64))->w.grownBy w' none->aA w' q (uv xs)/\Below w.heap.size w w'):=by
   rintro m q w' rfl a hg;refine⟨?_,(Below.refl _ _).grown hg (Nat.le_refl _) (λj E=>by cases E)⟩;have e:uv xs=xs.take (tlI xs n):=by unfold uv;rw[d.out]
   rw[e];exact aA.cd (by simpa using a)
  have M:Hid (A=none->n=0):=λe=>by
   rcases Nat.eq_zero_or_pos n with h|h
   ·exact h
   ·obtain⟨g,e2,_⟩:=c.out (by rw[d.out];exact h);rw[e]at e2;cases e2
  by_cases G:k=0
  ·subst G;have b:Hid (0=tlI xs n):=hid.out.symm;rcases A with _|g
   ·go_wp2_with(at_builtin;refine fR rfl _ _ _ rfl w.heap.size 3 o _ Tryz.underlying64 p r s t rfl (.slice none 0 0) 0 [] rfl (World.ownsRow_nil _ _ _ _) none 0 _ (xs.take 0) rfl oS (c.out.take _) oO (Nat.le_refl _) ?_;intro v1 f a hg B)
    go_ret;exact⟨v1,rfl,u.out 0 v1 f b.out a hg⟩
   ·go_wp2_with(at_builtin;refine fR rfl _ _ _ rfl w.heap.size 3 o _ Tryz.underlying64 p r s t rfl (.slice none 0 0) 0 [] rfl (World.ownsRow_nil _ _ _ _) (some g) 0 _ (xs.take 0) rfl oS (c.out.take _) oO (Nat.le_refl _) ?_;intro v1 f a hg B)
    go_ret;exact⟨v1,rfl,u.out 0 v1 f b.out a hg⟩
  ·obtain⟨m,rfl⟩:∃m,k=m+1:=⟨k-1,by omega⟩;obtain⟨g,rfl,-,hc⟩:=c.out (by rw[d.out];omega);have N:=hc m (by rw[d.out];omega);clear hc;have C:tlI xs (m+1)=if xs.getD m 0=0 then tlI xs m else m+1:=rfl
   have D:=Lib.hid C;clear C;generalize F:xs.getD m 0=x at*;clear F;by_cases l:x=0
   ·subst l;have b:Hid (tlI xs n=tlI xs m):=hid.out.trans (by rw[D.out,if_pos rfl]);go_wp2;exact⟨⟨m,by omega,by go_num,b.out⟩,by simp[intOf]⟩
   ·have b:Hid (m+1=tlI xs n):=(hid.out.trans (by rw[D.out,if_neg l])).symm;have K:(x==0)=false:=by rw[beq_eq_false_iff_ne];exact l
    clear l;go_wp2_with(at_builtin;refine fR rfl _ _ _ rfl w.heap.size 3 o _ Tryz.underlying64 p r s t rfl (.slice none 0 0) 0 [] rfl (World.ownsRow_nil _ _ _ _) (some g) (m+1) _ (xs.take (m+1)) rfl (by rw[List.length_take,d.out];omega) (c.out.take _) oO (Nat.le_refl _) ?_;intro v1 f a hg B)
    go_ret;exact⟨v1,rfl,u.out _ v1 f b.out a hg⟩
def hornN (s p x:Nat):List Nat->Nat
 |[]=>0
 |c::a=>bN s p (aG s p (hornN s p x a) x) c
theorem j1 {c s p:Nat} (h:VF c s p) (x:Nat) (l:List Nat) (hl:∀y∈l,y<s):hornN s p x l<s:=by
 induction l with
 |nil=>have:=h.aP;unfold hornN;omega
 |cons a b d=>exact ki h _ _ (bL h _ _) (hl a oS)
theorem FT (s p x:Nat) (l:List Nat) (m:Nat) (a:m<l.length):hornN s p x (l.drop m)=bN s p (aG s p (hornN s p x (l.drop (m+1))) x) (l.getD m 0):=by
 rw[List.drop_eq_getElem_cons a];show bN s p (aG s p (hornN s p x (l.drop (m+1))) x) l[m]=_;simp[List.getD,a]
theorem fU {s:Nat} {l:List Nat} (h:ao s l):∀y∈l,y<s:=by
 intro y a;obtain⟨i,b,rfl⟩:=List.getElem_of_mem a;have:=h i;simpa[List.getD,b]using this
abbrev gV (C S a bl:Nat):List Value:=[.int .i64 C,.int .i64 S,.slice (some ⟨a,0,none⟩) (S-1) (S-1),.slice (some ⟨bl,0,none⟩) S S]
theorem dQ {W:World} {b C S a bl:Nat} (h:ak W b (gV C S a bl)):W.cell? ⟨b,0,none⟩=some (.int .i64 C)/\W.cell? ⟨b,1,none⟩=some (.int .i64 S)/\W.cell? ⟨b,2,none⟩=some (.slice (some ⟨a,0,none⟩) (S-1) (S-1))/\W.cell? ⟨b,3,none⟩=some (.slice (some ⟨bl,0,none⟩) S S):=
 ⟨h.2 0 oS,h.2 1 oS,h.2 2 oS,h.2 3 oS⟩
def dC (l:List Nat):Array Value:=(l.map λn:Nat=>Value.int .i64 n).toArray
theorem fj (l:List Nat) (i:Nat):(dC l)[i]?=(l[i]?).map λn:Nat=>Value.int .i64 n:=by
 unfold dC;simp
theorem mf (l:List Nat) (i v:Nat):(dC l).setIfInBounds i (.int .i64 v)=dC (l.set i v):=by
 unfold dC;apply Array.ext';simp[List.map_set]
theorem jP (n:Nat):madeCells #[Value.int .i64 0] n=dC (List.replicate n 0):=by
 apply Array.ext';rw[toList_madeCells_one];unfold dC;simp
abbrev ql (C S P:Nat):Obj:= .cells #[.int .i64 C,.int .i64 S,.int .i64 P] 89
abbrev BV:Obj:= .cells #[.int .i64 0,.int .i64 0,.slice none 0 0,.slice none 0 0] 200
abbrev Oh (C S a b bl:Nat):Obj:= .cells #[.int .i64 C,.int .i64 S,.slice (some ⟨b,0,none⟩) a a,.slice (some ⟨bl,0,none⟩) S S] 200
structure dj (w wr:World) (C S P T n be bl a:Nat):Prop where
 B:Below w.heap.size w wr
 he:w.heap.size+1<be
 hl:w.heap.size+1<bl
 hs:w.heap.size+1<a
 n1:be≠bl
 n2:be≠a
 n3:bl≠a
 F:wr.heap[w.heap.size]?=some (ql C S P)
 R:wr.heap[w.heap.size+1]?=some BV
 E:wr.heap[be]?=some (.cells (dC (jC S P n)) 3)
 L:wr.heap[bl]?=some (.cells (dC (kP S P n)) 3)
 A:wr.heap[a]?=some (Oh C S T be bl)
theorem dj.below {w wr b:World} {C S P a n c bl d:Nat} (h:dj w wr C S P a n c bl d) (hb:Below wr.heap.size wr b):dj w b C S P a n c bl d:=
 ⟨ae h.B hb,h.he,h.hl,h.hs,h.n1,h.n2,h.n3,(hb.block _ (ar h.F)).trans h.F,(hb.block _ (ar h.R)).trans h.R,(hb.block _ (ar h.E)).trans h.E,(hb.block _ (ar h.L)).trans h.L,(hb.block _ (ar h.A)).trans h.A⟩
theorem dj.store {w wr:World} {C S P e n d bl j:Nat} (l:VF C S P) (o:e=S-1) (h:dj w wr C S P e n d bl j) (hn:n<e):
 dj w ((wr.setCell ⟨d,n,none⟩ (.int .i64 ((fpowN S P (ay S P) n:Nat):Int))).setCell ⟨bl,fpowN S P (ay S P) n,none⟩ (.int .i64 (n:Int))) C S P e (n+1) d bl j:=by
 have m:Below w.heap.size w (wr.setCell ⟨d,n,none⟩ (.int .i64 ((fpowN S P (ay S P) n:Nat):Int))):=h.B.setCell (by have:=h.he;simp;omega) _;have f:∀(k:Nat) (v:Value),k≠d->(wr.setCell ⟨d,n,none⟩ v).heap[k]?=wr.heap[k]?:=λk v i=>heap_setCell_other wr ⟨d,n,none⟩ k v i;have g:∀(W:World) (x k:Nat) (v:Value),k≠bl->(W.setCell ⟨bl,x,none⟩ v).heap[k]?=W.heap[k]?:=λW x k v i=>heap_setCell_other W ⟨bl,x,none⟩ k v i;have e1:=heap_setCell_same wr d n _ 3 (.int .i64 ((fpowN S P (ay S P) n:Nat):Int)) h.E;rw[mf,zD l (n:=n) oO]at e1;have e2:=heap_setCell_same (wr.setCell ⟨d,n,none⟩ (.int .i64 ((fpowN S P (ay S P) n:Nat):Int))) bl (fpowN S P (ay S P) n) _ 3 (.int .i64 (n:Int)) ((f bl _ (Ne.symm h.n1)).trans h.L);rw[mf,B6 l oO]at e2;have a:=h.he;have b:=h.hl;have c:=h.hs
 exact⟨m.setCell oT _,h.he,h.hl,h.hs,h.n1,h.n2,h.n3,
  ((g _ _ _ _ oO).trans (f _ _ oO)).trans h.F,((g _ _ _ _ oO).trans (f _ _ oO)).trans h.R,
  (g _ _ _ _ h.n1).trans e1,e2,((g _ _ _ _ (Ne.symm h.n3)).trans (f _ _ (Ne.symm h.n2))).trans h.A⟩
theorem dj.qO {w wr:World} {C S P a c bl f:Nat} (b:VF C S P) (g:a=S-1) (h:dj w wr C S P a a c bl f):dh wr S P c bl:=by
 subst g;refine⟨ar h.E,ar h.L,λi d=>?_,λx e j=>?_⟩
 ·rw[cell_of_row _ _ _ _ _ _ h.E,fj];have:=BN b d;rw[<-xT b]at this;rw[<-this];unfold jC;simp[List.getD,d]
 ·rw[cell_of_row _ _ _ _ _ _ h.L,fj];have:=Bb b e j;rw[<-this];unfold kP;simp[List.getD,e]
def bO (w:World) (b:Nat) (l:List Nat):Prop:=b<w.heap.size/\∀i,i<l.length->w.cell? ⟨b,i,none⟩=some (.int .i64 ((l.getD i 0:Nat):Int))/\w.frozen? ⟨b,i,none⟩=false
theorem bO.below {W a:World} {b:Nat} {l:List Nat} (h:bO W b l) (hb:Below W.heap.size W a):bO a b l:=
 ⟨Nat.lt_of_lt_of_le h.1 hb.size,λi c=>⟨(hb.cell h.1).trans (h.2 i c).1,(hb.frozen h.1).trans (h.2 i c).2⟩⟩
theorem bO.set {W:World} {b:Nat} {l:List Nat} (h:bO W b l) (i v:Nat):bO (W.setCell ⟨b,i,none⟩ (.int .i64 (v:Int))) b (l.set i v):=by
 refine⟨by simpa using h.1,λj c=>?_⟩;have a:j<l.length:=by simpa using c
 refine⟨?_,by rw[World.frozen?_setCell];exact(h.2 j a).2⟩;by_cases e:i=j
 ·subst e;rw[World.cell?_setCell_same W _ _ (h.2 i a).1];simp[List.getD,a]
 ·rw[World.cell?_setCell_other W _ _ _ (λe2=>e (by injection e2))];rw[(h.2 j a).1];simp[List.getD,List.getElem?_set_ne e]
theorem bO.other {W:World} {b:Nat} {l:List Nat} (h:bO W b l) (p:Addr) (u:Value) (c:b≠p.block):bO (W.setCell p u) b l:=by
 refine⟨by simpa using h.1,λj a=>⟨?_,by rw[World.frozen?_setCell];exact(h.2 j a).2⟩⟩;rw[World.cell?_setCell_other W _ _ _ (λe=>c (by rw[e]))];exact(h.2 j a).1
theorem bO.new (W:World) (b:Nat) (l:List Nat) (a:TypeId) (hb:b=W.heap.size):bO (W.alloc (.cells (dC l) a)) b l:=by
 have c:(W.alloc (.cells (dC l) a)).heap[b]?=some (.cells (dC l) a):=by
  rw[hb];exact heap_alloc_new _ _
 refine⟨ar c,λi d=>⟨?_,frozen_of_row _ _ _ _ _ c⟩⟩;rw[cell_of_row _ _ _ _ _ _ c,fj];simp[List.getD,d]
theorem bO.made (W:World) (b n:Nat) (a:TypeId) (hb:b=W.heap.size):bO (W.alloc (.cells (madeCells #[Value.int .i64 0] n) a)) b (List.replicate n 0):=by
 have c:(W.alloc (.cells (madeCells #[Value.int .i64 0] n) a)).heap[b]?=some (.cells (dC (List.replicate n 0)) a):=by
  rw[hb,<-jP];exact heap_alloc_new _ _
 refine⟨ar c,λi d=>⟨?_,frozen_of_row _ _ _ _ _ c⟩⟩;rw[cell_of_row _ _ _ _ _ _ c,fj];simp at d;simp[List.getD,d]
theorem bO.rd {W:World} {b:Nat} {l:List Nat} (h:bO W b l):RD W (some ⟨b,0,none⟩) (zl l):=λhn=>by
 refine⟨_,rfl,h.1,λj a=>?_⟩;rw[add_plain,Nat.zero_add,cT];exact(h.2 j (by rw[aw]at a;exact a)).1
theorem bO.ints {W:World} {b c n:Nat} {l:List Nat} (h:bO W b l) (hn:n=l.length) (hc:n<=c) (a:c<=maxLen):aA W (.slice (some ⟨b,0,none⟩) n c) (zl l):=
 ⟨_,c,by rw[aw,hn],by rw[aw,<-hn];exact hc,a,h.rd⟩
theorem bO.cd {W:World} {base g:Nat} {e:TypeId} {n:Nat} {c:Nat} {l:List Nat} (h:W.ownsRow base e 1 (.slice (some ⟨g,0,none⟩) n c) n ((zl l).map (Value.int .i64))) (hn:0<n):bO W g l:=by
 have hl:l.length=n:=by have:=h.1;simpa[aw]using this
 obtain⟨b,cap,d,_,m⟩:=h.form hn;have:b=g:=by injection d with a;injection a with a;injection a with a;exact a.symm
 subst this;refine⟨m,λi f=>⟨?_,?_⟩⟩
 ·have:=h.cells (g:=b) rfl i (.int .i64 ((l.getD i 0:Nat):Int)) (by unfold zl;simp[List.getD,f]);rw[add_plain,Nat.zero_add]at this;exact this
 ·rcases h.2 with⟨a,j⟩|⟨o,q,p,a,j,k,_⟩
  ·cases a
  ·injection a with a;injection a with a;injection a with a;subst a;exact frozen_of_row _ _ _ _ _ k
structure iT (w wr:World) (a:List Value) (l:List Nat):Prop where
 B:Below w.heap.size w wr
 X:ak wr w.heap.size a
 O:bO wr (w.heap.size+1) l
theorem iT.below {w wr W:World} {a:List Value} {l:List Nat} (h:iT w wr a l) (hb:Below wr.heap.size wr W):iT w W a l:=⟨ae h.B hb,h.X.below hb,h.O.below hb⟩
theorem iT.set {w wr:World} {a:List Value} {l:List Nat} (h:iT w wr a l) (i v:Nat):iT w (wr.setCell ⟨w.heap.size+1,i,none⟩ (.int .i64 (v:Int))) a (l.set i v):=
 ⟨h.B.setCell oS _,h.X.other _ _ oS,h.O.set i v⟩
theorem iT.start (w:World) (C S a bl n:Nat) (b:TypeId):iT w ((w.alloc (lu C S a bl)).alloc (.cells (madeCells #[Value.int .i64 0] n) b)) (gV C S a bl) (List.replicate n 0):=
 ⟨((Below.refl _ _).alloc (Nat.le_refl _) _).alloc oS _,(ak.new _ _ _ _ rfl).alloc _,bO.made _ _ _ _ oS⟩
theorem iT.M0 (w:World) (C S a bl:Nat) (l:List Nat) (b:TypeId):iT w ((w.alloc (lu C S a bl)).alloc (.cells (dC l) b)) (gV C S a bl) l:=
 ⟨((Below.refl _ _).alloc (Nat.le_refl _) _).alloc oS _,(ak.new _ _ _ _ rfl).alloc _,bO.new _ _ _ _ oS⟩
def subRow (s p c:Nat) (b r:List Nat) (i:Nat):Nat->List Nat
 |0=>r
 |j+1=>(subRow s p c b r i j).set (i+j) (cF s p ((subRow s p c b r i j).getD (i+j) 0) (aG s p c (b.getD j 0)))
def rL (s p:Nat) (a b:List Nat) (M:Nat):Nat->List Nat
 |0=>a
 |k+1=>subRow s p (aG s p ((rL s p a b M k).getD (M-1-k+(b.length-1)) 0) (dP s p (b.getD (b.length-1) 0))) b (rL s p a b M k) (M-1-k) b.length
def cL (s p:Nat) (a b:List Nat) (M k:Nat):Nat:=aG s p ((rL s p a b M k).getD (M-1-k+(b.length-1)) 0) (dP s p (b.getD (b.length-1) 0))
def qL (s p:Nat) (a b:List Nat) (M d:Nat):Nat->List Nat
 |0=>List.replicate d 0
 |k+1=>(qL s p a b M d k).set (M-1-k) (cL s p a b M k)
def cy (a b:List Nat):Nat:=a.length-(b.length-1)
def l8 (s p:Nat) (a b:List Nat):List Nat:=qL s p a b (cy a b) (cy a b) (cy a b)
def eN (s p:Nat) (a b:List Nat):List Nat:=dX (rL s p a b (cy a b) (cy a b))
theorem nO (s p c:Nat) (b r:List Nat) (i j:Nat):(subRow s p c b r i j).length=r.length:=by
 induction j with
 |zero=>rfl
 |succ j a=>unfold subRow;rw[List.length_set,a]
theorem tw (s p:Nat) (a b:List Nat) (M k:Nat):(rL s p a b M k).length=a.length:=by
 induction k with
 |zero=>rfl
 |succ k d=>unfold rL;rw[nO,d]
theorem zI (s p:Nat) (a b:List Nat) (M d k:Nat):(qL s p a b M d k).length=d:=by
 induction k with
 |zero=>simp[qL]
 |succ k e=>unfold qL;rw[List.length_set,e]
theorem nw {s:Nat} {l:List Nat} (h:ao s l) (i v:Nat) (b:v<s):ao s (l.set i v):=by
 intro j;have a:=h j;simp only[List.getD,List.getElem?_set]at a⊢;by_cases e:i=j
 ·subst e;by_cases hl:i<l.length
  ·simp[hl,b]
  ·have:=h i;simp[hl];omega
 ·simp[e];exact a
theorem xm {s n:Nat} (hs:0<s):ao s (List.replicate n 0):=by
 intro j;by_cases h:j<n
 ·simp[List.getD,h,hs]
 ·simp[List.getD,h,hs]
section
variable {c s p : Nat} (h : VF c s p)
include h
theorem sH {d:Nat} {b r:List Nat} (e:ao s r) (i j:Nat):ao s (subRow s p d b r i j):=by
 induction j with
 |zero=>exact e
 |succ j a=>exact nw a _ _ (om h (a _) (bL h _ _))
theorem xu {a b:List Nat} (d:ao s a) (M k:Nat):ao s (rL s p a b M k):=by
 induction k with
 |zero=>exact d
 |succ k e=>exact sH h e _ _
end
def eL (s p:Nat) (l:List Nat) (r c:Nat):Nat->List Nat
 |0=>(List.replicate (l.length+1) 0).set 0 c
 |k+1=>((eL s p l r c k).set k (cF s p ((eL s p l r c k).getD k 0) (aG s p (l.getD k 0) r))).set (k+1) (l.getD k 0)
def mw (s p:Nat) (l:List Nat) (r c:Nat):List Nat:=eL s p l r c l.length
theorem pT (s p:Nat) (l:List Nat) (r c k:Nat):(eL s p l r c k).length=l.length+1:=by
 induction k with
 |zero=>simp[eL]
 |succ k a=>unfold eL;rw[List.length_set,List.length_set,a]
theorem KW {c s p:Nat} (h:VF c s p) {l:List Nat} (hl:ao s l) {r d:Nat} (e:r<s) (b:d<s) (k:Nat):ao s (eL s p l r d k):=by
 induction k with
 |zero=>exact nw (xm (by have:=h.aP;omega)) _ _ b
 |succ k a=>exact nw (nw a _ _ (om h (a _) (bL h _ _))) _ _ (hl k)
theorem DL (C S P b bl r c:Nat) (l:List Nat) (A:Option Addr) (N:Nat) (w:World) (j:VF C S P) (hl:ao S l) (m:r<S) (hc:c<S) (hn:l.length<=8193)
 (D:dh w S P b bl) (E:RD w A (zl l)):
 Calls Tryz.prog 191 #[fs C S b bl,.slice A l.length N,.int .i64 r,.int .i64 c] w λe w'=>∃v,e= .returned v/\aA w' v (zl (mw S P l r c))/\Below w.heap.size w w':=by
 obtain⟨a,o⟩:∃a,a=l.length+1:=⟨_,rfl⟩;have a7:=run_make_row' (P:=Tryz.prog) 64 3 (.int .i64 0) 8 Tryz.underlying64 dg rfl .i64 .i64 a oO oO;have Z:((l.length:Int)+1)=(a:Int):=oO;have q:=Lib.hid j;have O:=Lib.hid hl;have Q:=Lib.hid E;have T:=Lib.hid D;have ab:=Lib.hid m;have B:Hid (∀k,(eL S P l r c k).length=a):=λk=>by rw[pT,o]
 have ac:Hid (∀k,ao S (eL S P l r c k)):=KW j hl m hc;have U:Hid (mw S P l r c=eL S P l r c l.length):=rfl;have V:Hid (eL S P l r c 0=(List.replicate a 0).set 0 c):=by show _=_;rw[o];rfl
 have H:0<a:=oO;have a8:a<=8194:=oO;have a9:l.length<a:=oO;clear j hl E D m hc o;generalize J:l.length=n at*;have F:=Lib.hid J;clear J;have ad:Hid (iT w ((w.alloc (lu C S b bl)).alloc (.cells ((madeCells #[Value.int .i64 0] a).setIfInBounds 0 (.int .i64 (c:Int))) 3)) (gV C S b bl) (eL S P l r c 0)):=by
  rw[V.out,jP,mf];exact iT.M0 w C S b bl _ _
 have al:Hid ((((w.alloc (lu C S b bl)).alloc (.cells (madeCells #[Value.int .i64 0] a) 3)).cell? ⟨w.heap.size+1,0,none⟩=some (.int .i64 ((0:Nat):Int)))/\((w.alloc (lu C S b bl)).alloc (.cells (madeCells #[Value.int .i64 0] a) 3)).frozen? ⟨w.heap.size+1,0,none⟩=false):=by
  have h:=(iT.start w C S b bl a 3).O.2 0 (by simpa using H);have e:(List.replicate a 0).getD 0 0=0:=by simp[List.getD,H]
  rw[e]at h;exact h
 obtain⟨am,ap⟩:=al.out;go_enter Tryz.func191,Tryz.ntmps191;go_wp2;clear Z am ap;go_loopw [21] (λi wr=>∃k:Nat,k<=n/\i= .int .i64 k/\Hid (iT w wr (gV C S b bl) (eL S P l r c k))) (λi _=>n-(intOf i).toNat)
 case atStart=>exact⟨0,Nat.zero_le _,rfl,ad⟩
 case round=>
  obtain⟨k,a5,rfl,d⟩:=hrel;by_cases av:k<n
  ·obtain⟨a6,rfl,-,K⟩:=(Q.out.below d.out.B) (by rw[aw,F.out];omega);have G:=K k (by rw[aw,F.out];exact av);rw[cT]at G;have X:Hid (l.getD k 0<S):=O.out k;have a0:Hid (eL S P l r c (k+1)=((eL S P l r c k).set k (cF S P ((eL S P l r c k).getD k 0) (aG S P (l.getD k 0) r))).set (k+1) (l.getD k 0)):=rfl;have Y:Hid ((eL S P l r c k).getD k 0<S):=ac.out k _;have y:=d.out.O.2 k (by rw[B.out];omega);have z:=d.out.O.2 (k+1) (by rw[B.out];omega);generalize a1:l.getD k 0=x at*;generalize a2:(eL S P l r c k).getD k 0=u at*;generalize a4:(eL S P l r c k).getD (k+1) 0=u2 at*;have g:Hid (∀W,af wr W->(W.cell? ⟨w.heap.size,0,none⟩=some (.int .i64 C)/\W.cell? ⟨w.heap.size,1,none⟩=some (.int .i64 S)/\W.cell? ⟨w.heap.size,2,none⟩=some (.slice (some ⟨b,0,none⟩) (S-1) (S-1))/\W.cell? ⟨w.heap.size,3,none⟩=some (.slice (some ⟨bl,0,none⟩) S S))/\W.cell? ⟨w.heap.size+1,k,none⟩=some (.int .i64 (u:Int))/\W.frozen? ⟨w.heap.size+1,k,none⟩=false/\W.cell? ⟨w.heap.size+1,k+1,none⟩=some (.int .i64 (u2:Int))/\W.frozen? ⟨w.heap.size+1,k+1,none⟩=false):=by
    show∀W,_;intro W f;exact⟨dQ (d.out.X.below f),(f.cell d.out.O.1).trans y.1,(f.frozen d.out.O.1).trans y.2,(f.cell d.out.O.1).trans z.1,(f.frozen d.out.O.1).trans z.2⟩
   have bb:k<a:=oO;have bo:k+1<a:=oO;clear a1 a2 a4 K y z;go_wp2;clear G;refine bY (S:=af wr) 13 oK oK (ai (Below.refl _ _)) ?_;simp only[List.take_succ_cons,List.take_zero,List.drop_succ_cons,List.drop_zero]
   repeat refine kO g.out ?_
   refine kX (λW f=>Ck C S P b bl x r W q.out X.out ab.out ((T.out.below d.out.B).below f)) ?_
   repeat refine kO g.out ?_
   refine kX (λW f=>Be C S P b bl u (aG S P x r) W q.out Y.out (bL q.out _ _)) ?_
   repeat refine kO g.out ?_
   refine dc ?_;intro t L;have M:=Lib.hid L;clear L;obtain⟨-,bd,be,a3,bf⟩:=g.out t M.out;have bi:∀v,(t.setCell ⟨w.heap.size+1,k,none⟩ v).cell? ⟨w.heap.size+1,k+1,none⟩=some (.int .i64 (u2:Int)):=λv=>(World.cell?_setCell_other t _ _ _ (λe=>by injection e;omega)).trans a3;go_wp2;exact⟨⟨k+1,by omega,by go_num,by rw[a0.out];exact((d.out.below M.out).set _ _).set _ _⟩,by simp[intOf];omega⟩
  ·obtain rfl:k=n:=oO;go_wp2;go_ret;refine⟨_,rfl,?_,d.out.B⟩;rw[U.out];exact d.out.O.ints (B.out _).symm oO oM
theorem Ln {w:World} {base:Nat} {e:TypeId} {v:Value} {n:Nat} {l:List Nat} (h:w.ownsRow base e 1 v n ((zl l).map (Value.int .i64))) (hn:0<n):
 ∃g cap,v= .slice (some ⟨g,0,none⟩) n cap/\base<=g/\n<=cap/\cap<=maxLen/\bO w g l:=by
 rcases h.2 with⟨_,a⟩|⟨g,cap,f,rfl,a,d,b,c,_⟩
 ·omega
 ·exact⟨g,cap,rfl,a,b,c,bO.cd h hn⟩
theorem Lr {w:World} {base:Nat} {e:TypeId} {v:Value} {n:Nat} {l:List Nat} (h:w.ownsRow base e 1 v n ((zl l).map (Value.int .i64))):
 ∃A cap,v= .slice A n cap/\n<=cap/\cap<=maxLen/\RD w A (zl l):=by
 rcases h.2 with⟨rfl,rfl⟩|⟨g,cap,i,rfl,d,f,b,c,_⟩
 ·have hl:l.length=0:=by have:=h.1;simpa[aw]using this
  have:l=[]:=List.eq_nil_of_length_eq_zero hl;subst this;exact⟨none,0,rfl,Nat.le_refl _,by simp[maxLen],RD.dI _ _⟩
 ·rcases Nat.eq_zero_or_pos n with a|a
  ·subst a;have hl:l.length=0:=by have:=h.1;simpa[aw]using this
   have:l=[]:=List.eq_nil_of_length_eq_zero hl;subst this;exact⟨_,cap,rfl,b,c,RD.dI _ _⟩
  ·exact⟨_,cap,rfl,b,c,(bO.cd h a).rd⟩
theorem CC (l:List Nat) (n:Nat) (hn:n=l.length) (A:Option Addr) (a:Nat) (w:World) (c:n<=100000) (b:n<=a) (d:RD w A (zl l)):
 Calls Tryz.prog 116 #[.slice A n a] w λe w'=>∃v,e= .returned v/\aA w' v (zl (dX l))/\Below w.heap.size w w':=by
 have e:n=(zl l).length:=by rw[aw];exact hn
 rw[e]at c b⊢;rw[<-Kl];exact Jk _ _ _ _ oO b d
structure mB (w wr:World) (a:List Value) (g q:Nat) (r b:List Nat):Prop where
 B:Below w.heap.size w wr
 X:ak wr w.heap.size a
 R:bO wr g r
 Q:bO wr q b
 hg:w.heap.size<g
 hq:w.heap.size<q
 n:g≠q
theorem mB.below {w wr W:World} {a:List Value} {g q:Nat} {r b:List Nat} (h:mB w wr a g q r b) (hb:Below wr.heap.size wr W):mB w W a g q r b:=
 ⟨ae h.B hb,h.X.below hb,h.R.below hb,h.Q.below hb,h.hg,h.hq,h.n⟩
theorem mB.NP {w wr:World} {a:List Value} {g q:Nat} {r b:List Nat} (h:mB w wr a g q r b) (i v:Nat):mB w (wr.setCell ⟨g,i,none⟩ (.int .i64 (v:Int))) a g q (r.set i v) b:=
 ⟨h.B.setCell (by have:=h.hg;simp;omega) _,h.X.other _ _ (by have:=h.hg;simp;omega),h.R.set i v,h.Q.other _ _ (Ne.symm h.n),h.hg,h.hq,h.n⟩
theorem mB.NT {w wr:World} {a:List Value} {g q:Nat} {r b:List Nat} (h:mB w wr a g q r b) (i v:Nat):mB w (wr.setCell ⟨q,i,none⟩ (.int .i64 (v:Int))) a g q r (b.set i v):=
 ⟨h.B.setCell (by have:=h.hq;simp;omega) _,h.X.other _ _ (by have:=h.hq;simp;omega),h.R.other _ _ h.n,h.Q.set i v,h.hg,h.hq,h.n⟩
theorem B7 (C S P f bl:Nat) (a b:List Nat) (A B:Option Addr) (v x:Nat) (w:World) (Z:VF C S P) (al:a.length<=8193) (am:b.length<=4097) (ap:1<=b.length) (ab:a.length<=b.length-1)
 (g:RD w A (zl a)):
 Calls Tryz.prog 156 #[fs C S f bl,.slice A a.length v,.slice B b.length x] w λe w'=>∃k o,e= .returned (.tuple #[k,o])/\aA w' k (zl (l8 S P a b))/\aA w' o (zl (eN S P a b))/\Below w.heap.size w w':=by
 obtain⟨y,z,M,N,O⟩:=info_parts dg;have D:=Lib.hid (g.alloc (lu C S f bl));have p:Hid (cy a b=0):=by show _=_;unfold cy;omega
 have E:Hid (l8 S P a b=[]):=by show _=_;unfold l8;rw[p.out];rfl
 have F:Hid (eN S P a b=dX a):=by show _=_;unfold eN;rw[p.out];rfl
 have G:Hid (a.length=(zl a).length):=(aw a).symm;clear g;obtain⟨c,Q⟩:∃c,c=b.length-1:=⟨_,rfl⟩;have av:((b.length:Int)-1)=(c:Int):=oO;have a0:a.length<=c:=oO;generalize hn:a.length=n at*;generalize H:b.length=m at*;have J:=Lib.hid hn;clear hn H Q;go_enter Tryz.func156,Tryz.ntmps156;go_wp2_with(at_builtin;refine fR rfl _ _ _ rfl (w.heap.size+1) 3 y _ Tryz.underlying64 z M N O rfl (.slice none 0 0) 0 [] rfl (World.ownsRow_nil _ _ _ _) A n _ (zl a) rfl G.out D.out oO oS ?_;intro v1 q u hg T;have U:Hid (Below w.heap.size w q):=((Below.refl _ _).alloc (Nat.le_refl _) _).grown hg oS (λj d=>by cases d);obtain⟨K,c1,rfl,V,a1,r⟩:=Lr (l:=a) (n:=n) (by simpa using u);have W:=Lib.hid r;clear u hg T r)
 go_loopw [9] (λi wr=>∃j:Int,i= .int .i64 j/\Hid (j<0)/\Hid (wr=q)) (λ_ _=>0)
 case atStart=>exact⟨_,rfl,by show _<_;omega,rfl⟩
 case round=>
  obtain⟨j,rfl,d,L⟩:=hrel;obtain rfl:=L.out;have a2:=d.out;go_wp2_with(go_at_call 116;refine(CC a n J.out.symm K c1 _ oO V W.out).mono ?_;rintro e ac ⟨ad,rfl,s,t⟩;have X:=Lib.hid s;have Y:=Lib.hid t;clear s t)
  go_ret2
  refine⟨_,_,rfl,?_,?_,ae U.out Y.out⟩
  ·rw[E.out];exact aA.dI _
  ·rw[F.out];exact X.out
theorem B5 (C S P o bl:Nat) (a b:List Nat) (A B:Option Addr) (b9 ca:Nat) (w:World) (K:VF C S P) (a8:ao S a) (a9:ao S b) (en:a.length<=8193) (eq:b.length<=4097) (z:1<=b.length) (ef:b.length<=a.length)
 (bb:b.getD (b.length-1) 0≠0) (L:dh w S P o bl) (ap:RD w A (zl a)) (hb:RD w B (zl b)):
 Calls Tryz.prog 156 #[fs C S o bl,.slice A a.length b9,.slice B b.length ca] w λe w'=>∃av a0,e= .returned (.tuple #[av,a0])/\aA w' av (zl (l8 S P a b))/\aA w' a0 (zl (eN S P a b))/\Below w.heap.size w w':=by
 obtain⟨cb,ce,cx,cN,c2⟩:=info_parts dg;obtain⟨M,H⟩:∃M,M=cy a b:=⟨_,rfl⟩;obtain⟨c,Q⟩:∃c,c=b.length-1:=⟨_,rfl⟩;have d9:M=a.length-(b.length-1):=H;have c3:=run_make_row' (P:=Tryz.prog) 64 3 (.int .i64 0) 8 Tryz.underlying64 dg rfl .i64 .i64 M oO oO;have a1:=Lib.hid (ap.alloc (lu C S o bl));have a2:=Lib.hid hb;have a3:=Lib.hid L;have v:=Lib.hid K;have bd:=Lib.hid a9;have ch:Hid (l8 S P a b=qL S P a b M M M):=by show _=_;rw[H];rfl
 have ci:Hid (eN S P a b=dX (rL S P a b M M)):=by show _=_;rw[H];rfl
 have c4:Hid (∀k,rL S P a b M (k+1)=subRow S P (cL S P a b M k) b (rL S P a b M k) (M-1-k) b.length):=λk=>rfl;have c5:Hid (∀k,cL S P a b M k=aG S P ((rL S P a b M k).getD (M-1-k+c) 0) (dP S P (b.getD c 0))):=λk=>by rw[Q];rfl
 have c6:Hid (∀k,qL S P a b M M (k+1)=(qL S P a b M M k).set (M-1-k) (cL S P a b M k)):=λk=>rfl;have be:Hid (∀k,ao S (rL S P a b M k)):=λk=>xu K a8 _ _;have am:Hid (∀k,(rL S P a b M k).length=a.length):=λk=>tw _ _ _ _ _ _;have b8:Hid (∀k,(qL S P a b M M k).length=M):=λk=>zI _ _ _ _ _ _ _;have a4:Hid (a.length=(zl a).length):=(aw a).symm;have c7:Hid (b.getD c 0≠0):=by rw[Q];exact bb
 have c8:((b.length:Int)-1)=(c:Int):=oO;have c9:((a.length:Int)-(c:Int))=(M:Int):=oO;have bf:(c:Int)<(a.length:Int):=oO;have er:1<=M:=oO;have es:M<=8193:=oO;have et:M+c<=a.length:=oO;have da:c<b.length:=oO;have fb:b.length<=c+1:=oO;clear ap hb L K a8 a9 bb H d9 Q;generalize hn:a.length=n at*;generalize a5:b.length=m at*;have eh:=Lib.hid hn;have N:=Lib.hid a5;clear hn a5;go_enter Tryz.func156,Tryz.ntmps156;go_wp2_with(at_builtin;refine fR rfl _ _ _ rfl (w.heap.size+1) 3 cb _ Tryz.underlying64 ce cx cN c2 rfl (.slice none 0 0) 0 [] rfl (World.ownsRow_nil _ _ _ _) A n _ (zl a) rfl a4.out a1.out oO oS ?_;intro v1 E b5 hg dd;have T:Hid (Below (w.alloc (lu C S o bl)).heap.size (w.alloc (lu C S o bl)) E):=(Below.refl _ _).grown hg (Nat.le_refl _) (λj F=>by cases F);obtain⟨g,c1,rfl,ew,de,ex,b6⟩:=Ln (l:=a) (n:=n) (by simpa using b5) oO;have b7:=Lib.hid b6;clear b5 hg dd b6)
 clear c8 c9;have dk:Hid (mB w (E.alloc (.cells (madeCells #[Value.int .i64 0] M) 3)) (gV C S o bl) g E.heap.size a (List.replicate M 0)):=by
  have bf:=T.out.size;simp at bf;exact⟨ah (cH T.out) _,((ak.new _ _ _ _ rfl).below T.out).alloc _,b7.out.below ((Below.refl _ _).alloc (Nat.le_refl _) _),bO.made _ _ _ _ rfl,by omega,by omega,Nat.ne_of_lt b7.out.1⟩
 generalize hq:E.heap.size=q at*;clear hq;clear c3 a4 a1;go_loopw [9] (λi wr=>∃(k:Nat) (j:Int),k<=M/\i= .int .i64 j/\Hid (j=(M:Int)-1-k)/\Hid (mB w wr (gV C S o bl) g q (rL S P a b M k) (qL S P a b M M k))) (λi _=>(intOf i+1).toNat)
 case atStart=>exact⟨0,_,Nat.zero_le _,rfl,by show _=_;omega,dk⟩
 case round=>
  obtain⟨k,j,ei,rfl,F,p⟩:=hrel;by_cases fc:k<M
  ·obtain⟨i,U⟩:∃i,i=M-1-k:=⟨_,rfl⟩;have ey:i<M:=oO;have ez:i+c<n:=oO;obtain rfl:j=(i:Int):=by have:=F.out;omega
   have V:=c4.out k;have X:=c6.out k;have Y:=c5.out k;rw[<-U]at V X Y;obtain⟨a6,rfl,-,dl⟩:=a2.out (by rw[aw,N.out];omega);have bi:Hid (∀W,af w W->∀s,s<m->W.cell? (a6.add s)=some (.int .i64 ((b.getD s 0:Nat):Int))):=by
    show∀W,_;intro W d s L;obtain⟨eA,e,_,hc⟩:=a2.out.below d (by rw[aw,N.out];omega);injection e with e;subst e;rw[hc s (by rw[aw,N.out];omega),cT]
   have bo:=p.out.R.2 (i+c) (by rw[am.out];omega);have Z:=p.out.Q.2 i (by rw[b8.out];omega);have ck:Hid ((rL S P a b M k).getD (i+c) 0<S):=be.out k _;have dn:Hid (b.getD c 0<S):=bd.out c;have ea:=Lib.hid (be.out k);have ec:=Lib.hid (am.out k);generalize dp:rL S P a b M k=r at*;generalize ds:qL S P a b M M k=co at*;generalize dv:cL S P a b M k=f at*;generalize ab:r.getD (i+c) 0=u at*;generalize ac:b.getD c 0=a7 at*;generalize dx:co.getD i 0=cp at*;have O:Hid (∀W,af wr W->((W.cell? ⟨w.heap.size,0,none⟩=some (.int .i64 C)/\W.cell? ⟨w.heap.size,1,none⟩=some (.int .i64 S)/\W.cell? ⟨w.heap.size,2,none⟩=some (.slice (some ⟨o,0,none⟩) (S-1) (S-1))/\W.cell? ⟨w.heap.size,3,none⟩=some (.slice (some ⟨bl,0,none⟩) S S))/\W.cell? ⟨g,i+c,none⟩=some (.int .i64 (u:Int))/\W.cell? (a6.add c)=some (.int .i64 (a7:Int)))/\W.cell? ⟨q,i,none⟩=some (.int .i64 (cp:Int))/\W.frozen? ⟨q,i,none⟩=false):=by
    show∀W,_;intro W d;refine⟨⟨dQ (p.out.X.below d),(d.cell p.out.R.1).trans bo.1,?_⟩,(d.cell p.out.Q.1).trans Z.1,(d.frozen p.out.Q.1).trans Z.2⟩;rw[bi.out W (ae p.out.B d) c da,ac]
   have dy:=Lib.hid V;have dz:=Lib.hid X;have bq:=Lib.hid Y;have e0:=Lib.hid ac;have dE:=Lib.hid U;clear V X Y dl bo Z dp ds dv ab ac dx U;have bs:(0:Int)<=(i:Int)+c:=oO;have bt:(i:Int)+c<(n:Int):=oO;have bv:((i:Int)+c).toNat=i+c:=oO;have ad:IntKind.i64.wrap ((i:Int)+c)=(i:Int)+c:=aF _ oO oO;go_wp2;refine bY (S:=af wr) 12 oK oK (ai (Below.refl _ _)) ?_;simp only[List.take_succ_cons,List.take_zero,List.drop_succ_cons,List.drop_zero]
   repeat refine kO O.out ?_
   refine kX (λW d=>Jw C S P o bl u a7 W v.out ck.out dn.out c7.out ((a3.out.below p.out.B).below d)) ?_
   repeat refine kO O.out ?_
   refine dc ?_;intro G z;have D:=Lib.hid z;clear z;clear ad bv bs bt;rw[<-bq.out];have d0:Hid (f<S):=by rw[bq.out];exact bL v.out _ _
   obtain⟨-,bx,bz⟩:=O.out G D.out;have d1:Hid (mB w (G.setCell ⟨q,i,none⟩ (.int .i64 (f:Int))) (gV C S o bl) g q r (qL S P a b M M (k+1))):=by
    rw[dz.out];exact(p.out.below D.out).NT i f
   have d2:Hid (∀x,subRow S P f b r i (x+1)=(subRow S P f b r i x).set (i+x) (cF S P ((subRow S P f b r i x).getD (i+x) 0) (aG S P f (b.getD x 0)))):=λx=>rfl;have d3:Hid (∀x,ao S (subRow S P f b r i x)):=λx=>sH v.out ea.out i x;have d4:Hid (∀x,(subRow S P f b r i x).length=n):=λx=>(nO _ _ _ _ _ _ _).trans ec.out;go_wp2;clear bx bz;generalize G.setCell ⟨q,i,none⟩ (.int .i64 (f:Int))=ek at*;go_loopw [52] (λs wr=>∃x:Nat,x<=m/\s= .int .i64 x/\Hid (mB w wr (gV C S o bl) g q (subRow S P f b r i x) (qL S P a b M M (k+1)))) (λs _=>m-(intOf s).toNat)
   case atStart=>exact⟨0,Nat.zero_le _,rfl,d1⟩
   case round=>
    obtain⟨x,el,rfl,t⟩:=hrel;by_cases ed:x<m
    ·have cq:=bi.out _ t.out.B x ed;have cs:Hid (b.getD x 0<S):=bd.out x;have b1:=d2.out x;have d5:Hid ((subRow S P f b r i x).getD (i+x) 0<S):=d3.out x _;have al:=t.out.R.2 (i+x) (by rw[d4.out];omega);generalize d6:b.getD x 0=y at*;generalize ab:(subRow S P f b r i x).getD (i+x) 0=u2 at*;have d7:=Lib.hid b1;have J:Hid (∀W,af wr W->(W.cell? ⟨w.heap.size,0,none⟩=some (.int .i64 C)/\W.cell? ⟨w.heap.size,1,none⟩=some (.int .i64 S)/\W.cell? ⟨w.heap.size,2,none⟩=some (.slice (some ⟨o,0,none⟩) (S-1) (S-1))/\W.cell? ⟨w.heap.size,3,none⟩=some (.slice (some ⟨bl,0,none⟩) S S))/\W.cell? ⟨g,i+x,none⟩=some (.int .i64 (u2:Int))/\W.frozen? ⟨g,i+x,none⟩=false):=by
      show∀W,_;intro W d;exact⟨dQ (t.out.X.below d),(d.cell t.out.R.1).trans al.1,(d.frozen t.out.R.1).trans al.2⟩
     clear d6 ab al b1;have bs:(0:Int)<=(i:Int)+x:=oO;have bt:(i:Int)+x<(n:Int):=oO;have bv:((i:Int)+x).toNat=i+x:=oO;have ad:IntKind.i64.wrap ((i:Int)+x)=(i:Int)+x:=aF _ oO oO;go_wp2;clear cq;refine bY (S:=af wr) 17 oK oK (ai (Below.refl _ _)) ?_;simp only[List.take_succ_cons,List.take_zero,List.drop_succ_cons,List.drop_zero]
     repeat refine kO J.out ?_
     refine kX (λW d=>Ck C S P o bl f y W v.out d0.out cs.out ((a3.out.below t.out.B).below d)) ?_
     repeat refine kO J.out ?_
     refine kX (λW d=>Be C S P o bl u2 (aG S P f y) W v.out d5.out (bL v.out _ _)) ?_
     repeat refine kO J.out ?_
     refine dc ?_;intro cv z;have b2:=Lib.hid z;clear z;obtain⟨-,bx,bz⟩:=J.out cv b2.out;go_wp2;clear ad;exact⟨⟨x+1,by omega,by go_num,by rw[d7.out];exact(t.out.below b2.out).NP _ _⟩,by simp[intOf];omega⟩
    ·obtain rfl:x=m:=oO;go_wp2;exact⟨⟨k+1,_,by omega,rfl,by have:=dE.out;show _=_;omega,by rw[dy.out];exact t⟩,by simp[intOf]⟩
  ·obtain rfl:k=M:=oO;have e9:j<0:=by have:=F.out;omega
   go_wp2_with(go_at_call 116;refine(CC (rL S P a b k k) n (am.out k).symm _ _ _ oO de p.out.R.rd).mono ?_;rintro e G ⟨em,rfl,b3,b4⟩;have d8:=Lib.hid b3;have D:=Lib.hid b4;clear b3 b4)
   go_ret2
   refine⟨_,_,rfl,?_,?_,ae p.out.B D.out⟩
   ·rw[ch.out];exact(p.out.Q.ints (b8.out _).symm (Nat.le_refl _) oM).below D.out
   ·rw[ci.out];exact d8.out
theorem og (c s p:Int) (xs:List Int) (n:Nat) (hn:n=xs.length) (A:Option Addr) (a:Nat) (w:World) (b:n<=9223372036854775807) (d:RD w A xs):
 Calls Tryz.prog 190 #[cu c s p,.slice A n a] w λe w'=>e= .returned (.bool (gH s xs))/\Below w.heap.size w w':=by
 subst hn;exact C0 c s p xs A a w b d
def iO (s:Int) (xs:List Int):Bool:=decide (xs.length<=4097)&&(decide (xs.length=0)||!decide (xs.getD (xs.length-1) 0=0))&&gH s xs
structure Sl where
 A:Option Addr
 n:Nat
 c:Nat
 xs:List Int
abbrev Sl.v (q:Sl):Value:= .slice q.A q.n q.c
structure Sl.R (q:Sl) (w:World):Prop where
 hn:q.n=q.xs.length
 hm:q.n<=9223372036854775807
 rd:RD w q.A q.xs
 hc:q.n<=q.c
 lH:q.c<=maxLen
theorem Sl.R.below {q:Sl} {W a:World} (h:q.R W) (hb:Below W.heap.size W a):q.R a:=⟨h.hn,h.hm,h.rd.below hb,h.hc,h.lH⟩
theorem Sl.R.ints {q:Sl} {w:World} (h:q.R w):aA w q.v q.xs:=⟨q.A,q.c,by rw[<-h.hn],by rw[<-h.hn];exact h.hc,h.lH,h.rd⟩
theorem aA.sl {w:World} {v:Value} {xs:List Int} (h:aA w v xs):∃q:Sl,v=q.v/\q.R w/\q.xs=xs:=by
 obtain⟨A,c,rfl,b,a,d⟩:=h;exact⟨⟨A,xs.length,c,xs⟩,rfl,⟨rfl,by unfold maxLen at a;simp only;omega,d,b,a⟩,rfl⟩
instance:Inhabited Sl:=⟨⟨none,0,0,[]⟩⟩
structure so (w:World) (V:Option Addr) (ps:List Sl):Prop where
 rd:0<ps.length->∃b,V=some ⟨b,0,none⟩/\b<w.heap.size/\∀j,j<ps.length->w.cell? ⟨b,j,none⟩=some (ps.getD j default).v
 el:∀q∈ps,q.R w
theorem so.below {V:Option Addr} {ps:List Sl} {W a:World} (h:so W V ps) (hb:Below W.heap.size W a):so a V ps:=
 ⟨λhn=>by obtain⟨b,e,hl,hc⟩:=h.rd hn;exact⟨b,e,Nat.lt_of_lt_of_le hl hb.size,λj c=>(hb.cell hl).trans (hc j c)⟩,λq hq=>(h.el q hq).below hb⟩
theorem so.dI (w:World) (V:Option Addr):so w V []:=⟨λh=>absurd h oS,λq hq=>by cases hq⟩
theorem so.two {w:World} {q r:Sl} (a:TypeId) (b:Nat) (hb:b=w.heap.size) (h:q.R w) (g:r.R w):so (w.alloc (.cells #[q.v,r.v] a)) (some ⟨b,0,none⟩) [q,r]:=by
 refine⟨λ_=>⟨b,rfl,by simp;omega,λj c=>?_⟩,λe hq=>?_⟩
 ·have:=(ak.new w #[q.v,r.v] a b hb).2 j (by simpa using c);rw[this];have:j=0\/j=1:=by simp at c;omega
  rcases this with rfl|rfl<;>rfl
 ·have d:Below w.heap.size w (w.alloc (.cells #[q.v,r.v] a)):=(Below.refl _ _).alloc (Nat.le_refl _) _;rcases List.mem_cons.1 hq with rfl|hq
  ·exact h.below d
  ·obtain rfl:e=r:=by simpa using hq
   exact g.below d
theorem IY {ps:List Sl} {f:Sl->Bool} {k:Nat} (a:k<ps.length) (h:f (ps.getD k default)=false):ps.all f=false:=by
 rw[List.all_eq_false];refine⟨ps[k],List.getElem_mem a,?_⟩;have e:ps.getD k default=ps[k]:=by simp[List.getD,a]
 rw[e]at h;simpa using h
theorem K3 {ps:List Sl} {f:Sl->Bool} (h:∀j,j<ps.length->f (ps.getD j default)=true):ps.all f=true:=by
 rw[List.all_eq_true];intro q hq;obtain⟨j,a,rfl⟩:=List.getElem_of_mem hq;have:=h j a;simpa[List.getD,a]using this
theorem so.at_ {w:World} {V:Option Addr} {ps:List Sl} (h:so w V ps) {k:Nat} (a:k<ps.length):(ps.getD k default).R w:=by
 have e:ps.getD k default=ps[k]:=by simp[List.getD,a]
 rw[e];exact h.el _ (List.getElem_mem a)
theorem GA {s:Int} {xs:List Int} (h:4097<xs.length):iO s xs=false:=by
 unfold iO;rw[show decide (xs.length<=4097)=false from by simp;omega];rfl
theorem Hm {s:Int} {xs:List Int} (h:1<=xs.length) (a:xs.getD (xs.length-1) 0=0):iO s xs=false:=by
 unfold iO;rw[show decide (xs.length=0)=false from by simp;intro e;rw[e]at h;simp at h,a];simp
theorem yd {s:Int} {xs:List Int} (h:xs.length<=4097) (a:xs.length=0\/xs.getD (xs.length-1) 0≠0):iO s xs=gH s xs:=by
 unfold iO;rw[show decide (xs.length<=4097)=true from by simp;omega];rcases a with a|a
 ·rw[show decide (xs.length=0)=true from by simpa using a];simp
 ·rw[show decide (xs.getD (xs.length-1) 0=0)=false from by simpa using a];simp
abbrev ya (c s p:Int):List Value:=[.int .i64 c,.int .i64 s,.int .i64 p]
abbrev kT (c s p:Int):Obj:= .cells #[.int .i64 c,.int .i64 s,.int .i64 p] 89
theorem rP {W:World} {b:Nat} {c s p:Int} (h:ak W b (ya c s p)):W.cell? ⟨b,0,none⟩=some (.int .i64 c)/\W.cell? ⟨b,1,none⟩=some (.int .i64 s)/\W.cell? ⟨b,2,none⟩=some (.int .i64 p):=
 ⟨h.2 0 oS,h.2 1 oS,h.2 2 oS⟩
theorem wX (c s p:Int) (V:Option Addr) (m ad:Nat) (ps:List Sl) (w:World) (N:m=ps.length) (a6:m<=1000) (O:p<=9223372036854775807) (hs:so w V ps):
 Calls Tryz.prog 154 #[cu c s p,.slice V m ad] w λe w'=>e= .returned (.bool (bK c s p&&ps.all λq=>iO s q.xs))/\Below w.heap.size w w':=by
 have al:Hid (ak (w.alloc (kT c s p)) w.heap.size (ya c s p)):=ak.new _ _ _ _ rfl;have P:=Lib.hid (hs.below ((Below.refl _ _).alloc (Nat.le_refl _) (kT c s p)));have t:=Lib.hid N;clear N hs;by_cases o:bK c s p=true
 ·have r:=Lib.hid o;clear o;go_enter Tryz.func154,Tryz.ntmps154;go_wp2_with(go_at_call 149;refine(jn c s p _ O).mono ?_;rintro e am ⟨rfl,v⟩;rw[r.out];have G:=Lib.hid v;clear v)
  go_loopw [13] (λi wr=>∃k:Nat,k<=m/\i= .int .i64 k/\Hid (∀j,j<k->iO s (ps.getD j default).xs=true)/\Hid (Below (w.alloc (kT c s p)).heap.size (w.alloc (kT c s p)) wr)) (λi _=>m-(intOf i).toNat)
  case atStart=>exact⟨0,Nat.zero_le _,rfl,λj ap=>by omega,G.out⟩
  case round=>
   obtain⟨k,a3,rfl,hid,g⟩:=hrel;by_cases H:k<m
   ·obtain⟨b,rfl,-,hc⟩:=(P.out.below g.out).rd (by rw[<-t.out];omega);have av:=hc k (by rw[<-t.out];exact H);have E:=Lib.hid ((P.out.below g.out).at_ (k:=k) (by rw[<-t.out];exact H));have a0:Hid (iO s (ps.getD k default).xs=false->ps.all (λq=>iO s q.xs)=false):=λh=>IY (f:=λq=>iO s q.xs) (by rw[<-t.out];exact H) h;obtain⟨a7,a8,a9⟩:=rP (al.out.below g.out);clear hc;generalize y:ps.getD k default=q at*;have a1:=Lib.hid y;clear y;obtain⟨A,n,F,xs⟩:=q;have Z:=E.out.hm;have J:=E.out.hn;have C:Hid (RD wr A xs):=Lib.hid E.out.rd;simp only[Sl.v]at av Z J;have a:=Lib.hid J;clear J;have M:Hid (iO s xs=false->Value.bool false= .bool (bK c s p&&ps.all λq=>iO s q.xs)):=λh=>by rw[r.out,a0.out h];rfl
    have ab:Hid (iO s xs=true->∀j,j<k+1->iO s (ps.getD j default).xs=true):=λh j ap=>by
     by_cases a2:j=k
     ·subst a2;rw[a1.out];exact h
     ·exact hid.out j oO
    by_cases ac:4097<n
    ·have u:=Lib.hid (M.out (GA (by rw[<-a.out];exact ac)));go_wp2;go_ret;exact⟨congrArg Ending.returned u.out,cH g.out⟩
    ·have X:n<=4097:=oO;clear ac Z;by_cases Q:n=0
     ·subst Q;have Y:xs=[]:=List.eq_nil_of_length_eq_zero a.out.symm;have d:Hid (gH s xs=true):=by show _=_;rw[Y];rfl
      have K:=Lib.hid (ab.out (by rw[yd (by rw[<-a.out];omega) (.inl a.out.symm)];exact d.out));clear Y;go_wp2_with(go_at_call 190;refine(og c s p xs 0 a.out A F _ oO C.out).mono ?_;rintro e S ⟨rfl,l⟩;rw[d.out];have z:=Lib.hid l;clear l)
      exact⟨⟨k+1,by omega,by go_num,K.out,ae g.out z.out⟩,by simp[intOf];omega⟩
     ·obtain⟨q,y⟩:∃q,q=n-1:=⟨_,rfl⟩;have bb:(n:Int)-1=(q:Int):=oO;have bd:q<n:=oO;have be:q<=4096:=oO;have bf:1<=n:=oO;have a4:decide ((4097:Int)<(n:Int))=false:=by simp;omega
      have bi:decide ((0:Int)<(n:Int))=true:=by simp;omega
      obtain⟨T,rfl,-,hc⟩:=C.out (by rw[<-a.out];omega);have bo:=hc q (by rw[<-a.out];omega);have L:=Lib.hid X;have U:Hid (xs.getD (xs.length-1) 0=xs.getD q 0):=by show _=_;rw[<-a.out,y]
      clear X Q y;clear hc;generalize xs.getD q 0=x at*;by_cases D:x=0
      ·subst D;have u:=Lib.hid (M.out (Hm (by rw[<-a.out];omega) U.out));go_wp2;go_ret;exact⟨congrArg Ending.returned u.out,cH g.out⟩
      ·have W:=Lib.hid (yd (s:=s) (xs:=xs) (by rw[<-a.out];exact L.out) (.inr (by rw[U.out];exact D)));have a5:(x==0)=false:=by rw[beq_eq_false_iff_ne];exact D
       clear D;cases B:gH s xs with
       |true=>
        have d:=Lib.hid B;have K:=Lib.hid (ab.out (by rw[W.out];exact d.out));clear B;go_wp2_with(go_at_call 190;refine(og c s p xs n a.out (some T) F _ (by have:=L.out;omega) C.out).mono ?_;rintro e S ⟨rfl,l⟩;rw[d.out];have z:=Lib.hid l;clear l)
        exact⟨⟨k+1,by omega,by go_num,K.out,ae g.out z.out⟩,by simp[intOf];omega⟩
       |false=>
        have d:=Lib.hid B;have u:=Lib.hid (M.out (by rw[W.out];exact d.out));clear B;go_wp2_with(go_at_call 190;refine(og c s p xs n a.out (some T) F _ (by have:=L.out;omega) C.out).mono ?_;rintro e S ⟨rfl,l⟩;rw[d.out];have z:=Lib.hid l;clear l)
        go_ret;exact⟨congrArg Ending.returned u.out,cH (ae g.out z.out)⟩
   ·obtain rfl:k=m:=oO;have d:=Lib.hid (K3 (ps:=ps) (f:=λq=>iO s q.xs) (by rw[<-t.out];exact hid.out));go_wp2;go_ret;exact⟨bM (by rw[r.out,d.out];rfl),cH g.out⟩
 ·have o:bK c s p=false:=by simpa using o
  have r:=Lib.hid o;clear o;go_enter Tryz.func154,Tryz.ntmps154;go_wp2_with(go_at_call 149;refine(jn c s p _ O).mono ?_;rintro e am ⟨rfl,v⟩;rw[r.out];have G:=Lib.hid v;clear v)
  go_ret;exact⟨bM (by rw[r.out];rfl),cH G.out⟩
end
end Go.Proofs.YtmnlkganmgcpbaaGreatDoor
