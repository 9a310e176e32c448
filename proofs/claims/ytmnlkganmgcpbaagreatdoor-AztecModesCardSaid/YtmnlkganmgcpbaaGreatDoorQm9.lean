import Derived.Test.YtmnlkganmgcpbaaGreatDoorQm8
import Derived.Deep.RegionHeld3
set_option maxRecDepth 100000
set_option maxHeartbeats 4000000
set_option linter.unusedVariables false
set_option linter.unusedSectionVars false
set_option linter.unusedSimpArgs false
namespace Go.Proofs.YtmnlkganmgcpbaaGreatDoor
section
open Go.RowKit
theorem J6 {W c:World} (hb:Below W.heap.size W c):(∀b a,b<W.heap.size->c.cell? ⟨b,a,none⟩=W.cell? ⟨b,a,none⟩)/\(∀b a,b<W.heap.size->c.frozen? ⟨b,a,none⟩=W.frozen? ⟨b,a,none⟩):=
 ⟨λ_ _ h=>hb.cell h,λ_ _ h=>hb.frozen h⟩
def gB (s:Int) (xs:List Int):Bool:=xs.all λa=>decide (0<=a)&&decide (a<s)
theorem Ff (c s p:Int) (xs:Value) (w:World) (f:p<=9223372036854775807) (a:aW c s p=false):
 Calls Tryz.prog 157 #[aN c s p,xs] w λe w'=>e= .returned (.bool false)/\Below w.heap.size w w':=by
 have b:=Lib.hid a;clear a;go_enter Tryz.func157,Tryz.ntmps157;go_wp2_with(go_at_call 149;refine(jd _ _ _ _ oO).mono ?_;rintro e g ⟨rfl,d⟩;rw[b.out])
 go_ret;exact⟨rfl,((Below.refl _ _).alloc (Nat.le_refl _) _).trans (d.mono oS)⟩
theorem IZ (c s p:Int) (w:World) (f:p<=9223372036854775807) (a:aW c s p=true):
 Calls Tryz.prog 157 #[aN c s p,.slice none 0 0] w λe w'=>e= .returned (.bool true)/\Below w.heap.size w w':=by
 have b:=Lib.hid a;clear a;go_enter Tryz.func157,Tryz.ntmps157;go_wp2_with(go_at_call 149;refine(jd _ _ _ _ oO).mono ?_;rintro e g ⟨rfl,d⟩;rw[b.out])
 go_loop [6,12] (λ_ i=>i= .int .i64 0) (λ_ _=>0)
 case atStart=>rfl
 case round=>
  subst hrel;go_wp2;go_ret;exact⟨rfl,((Below.refl _ _).alloc (Nat.le_refl _) _).trans (d.mono oS)⟩
theorem Kn (c s p:Int) (xs:List Int) (b:Nat) (w:World) (K:p<=9223372036854775807) (y:aW c s p=true)
 (hn:xs.length<=1000) (H:b<w.heap.size) (B:∀i,i<xs.length->w.cell? ⟨b,i,none⟩=some (.int .i64 (xs.getD i 0))):
 Calls Tryz.prog 157 #[aN c s p,.slice (some ⟨b,0,none⟩) xs.length xs.length] w λe w'=>e= .returned (.bool (gB s xs))/\Below w.heap.size w w':=by
 have D:=Lib.hid y;clear y;have HC:=Lib.hid B;clear B;generalize z:xs.length=n at*;have m:=Lib.hid z;clear z;go_enter Tryz.func157,Tryz.ntmps157;go_wp2_with(go_at_call 149;refine(jd _ _ _ _ oO).mono ?_;rintro e o ⟨rfl,r⟩;rw[D.out])
 obtain⟨t,-⟩:=J6 r;have O:o.cell? ⟨w.heap.size,1,none⟩=some (.int .i64 s):=by
  rw[t _ _ oS];go_simp
 have C:∀i,i<n->o.cell? ⟨b,i,none⟩=some (.int .i64 (xs.getD i 0)):=by
  intro i E;rw[t _ _ oT,<-HC.out i E];exact World.cell?_of_block (Below.heap_alloc _ _ _ H)
 have F:=Lib.hid C;clear C HC t;have v:Hid (Below w.heap.size w o):=((Below.refl _ _).alloc (Nat.le_refl _) _).trans (r.mono oS);clear r;go_loop [6,12] (λ_ i=>∃k:Nat,k<=n/\i= .int .i64 k/\Hid (∀j,j<k->0<=xs.getD j 0/\xs.getD j 0<s)) (λ_ i=>n-(intOf i).toNat)
 case atStart=>exact⟨0,Nat.zero_le _,rfl,λj l=>by omega⟩
 case round=>
  obtain⟨k,L,rfl,hid⟩:=hrel;by_cases u:k<n
  ·have P:=F.out k u;generalize A:xs.getD k 0=x at*;have q:=Lib.hid A;clear A;by_cases M:x<0
   ·have d:gB s xs=false:=by
     unfold gB;rw[List.all_eq_false];have g:k<xs.length:=by rw[m.out];exact u
     refine⟨xs[k],List.getElem_mem g,?_⟩;have:xs[k]=x:=by rw[<-q.out];simp[List.getElem?_eq_getElem g]
     rw[this];simp;omega
    have f:=Lib.hid d;clear d;go_wp2;go_ret;exact⟨aK f.out.symm,v.out⟩
   ·by_cases N:s<=x
    ·have d:gB s xs=false:=by
      unfold gB;rw[List.all_eq_false];have g:k<xs.length:=by rw[m.out];exact u
      refine⟨xs[k],List.getElem_mem g,?_⟩;have:xs[k]=x:=by rw[<-q.out];simp[List.getElem?_eq_getElem g]
      rw[this];simp;omega
     have f:=Lib.hid d;clear d;go_wp2;go_ret;exact⟨aK f.out.symm,v.out⟩
    ·go_wp2;refine⟨⟨k+1,by omega,by go_num,?_⟩,by simp[intOf];omega⟩;intro j l;by_cases J:j=k
     ·subst J;rw[q.out];omega
     ·exact hid.out j oO
  ·have d:gB s xs=true:=by
    unfold gB;rw[List.all_eq_true];intro a G;obtain⟨j,l,rfl⟩:=List.getElem_of_mem G;have:=hid.out j (by rw[m.out]at l;omega);rw[List.getD_eq_getElem?_getD,List.getElem?_eq_getElem l]at this;simpa using this
   have f:=Lib.hid d;clear d;obtain rfl:k=n:=oO;go_wp2;go_ret;exact⟨aK f.out.symm,v.out⟩
theorem oQ (d p A B S R:Nat) (i:bl p=d+1) (j:bl A<=d) (hB:bl B<=d) (c:bl S<=d) (hid:S^^^cmod (bJ A B) p=R) (a:Bool) (e:decide (B%2=1)=a)
 (b:Nat) (f:b=cmod (2* A) p):bl b<=d/\bl (B/2)<=d/\bl (if a then S^^^A else S)<=d/\(if a then S^^^A else S)^^^cmod (bJ b (B/2)) p=R:=by
 have g:p≠0:=by intro h;subst h;rw[dI]at i;omega
 refine⟨?_,?_,?_,?_⟩
 ·have:=kK (2* A) p g;rw[f];omega
 ·exact Nat.le_trans (pL _ _ (Nat.div_le_self B 2)) hB
 ·cases a
  ·exact c
  ·exact k8 _ _ _ c j
 ·rw[<-hid,Hh A B p g,f];cases a
  ·have:¬B%2=1:=by simpa using e
   simp[this]
  ·have:B%2=1:=by simpa using e
   simp only[this,if_true];rw[jw A p oO,Nat.xor_assoc]
theorem Dv {B:Nat} (hB:B<2^62) (h:(bits BinOp.and IntKind.i64 (B:Int) 1==1)=true):decide (B%2=1)=true:=by
 rw[mC B hB]at h;rw[decide_eq_true_iff];exact Int.ofNat.inj (eq_of_beq h)
theorem G0 {B:Nat} (hB:B<2^62) (h:(bits BinOp.and IntKind.i64 (B:Int) 1==1)=false):decide (B%2=1)=false:=by
 rw[mC B hB]at h;rw[decide_eq_false_iff_not];intro e;rw[e]at h;cases h
theorem G5 {d p A:Nat} {s:Nat} (hs:2^d=s) (a:bl p=d+1) (b:bl A<=d) (h:(s:Int)<=(A:Int)* 2) (c:d<=12):
 bits BinOp.xor IntKind.i64 ((A:Int)* 2) (p:Int)=((cmod (2* A) p:Nat):Int):=by
 rw[tn A p d a b,if_pos (by rw[hs];omega)];have e:A<2^12:=(aS _ _).1 oO;have f:p<2^13:=(aS _ _).1 oO;rw[show((A:Int)* 2)=((2* A:Nat):Int)from by omega];exact fU _ _ oO oO
theorem Ga {d p A:Nat} {s:Nat} (hs:2^d=s) (a:bl p=d+1) (b:bl A<=d) (h:(A:Int)* 2<(s:Int)):
 (A:Int)* 2=((cmod (2* A) p:Nat):Int):=by
 rw[tn A p d a b,if_neg (by rw[hs];omega)];omega
theorem Ck (d s p a b:Nat) (c:Int) (w:World) (t:d<=12) (hs:2^d=s) (u:bl p=d+1) (D:bl a<=d) (hb:bl b<=d) (H:((p:Int)==0)=false):
 Calls Tryz.prog 196 #[aN c s p,.int .i64 a,.int .i64 b] w λe w'=>e= .returned (.int .i64 (cmod (bJ a b) p))/\Below w.heap.size w w':=by
 have J:s<=4096:=by rw[<-hs];exact Nat.pow_le_pow_right (n:=2) oO t
 have m:=Lib.hid hs;clear hs;have g:=Lib.hid u;clear u;have l:=Lib.hid t;clear t;go_enter Tryz.func196,Tryz.ntmps196;go_wp2_with fail
 go_loop [1,2,7] (λx y z=>∃A B S:Nat,x= .int .i64 A/\y= .int .i64 B/\z= .int .i64 S/\bl A<=d/\bl B<=d/\bl S<=d/\Hid (S^^^cmod (bJ A B) p=cmod (bJ a b) p)) (λ_ y _=>(intOf y).toNat)
 case atStart=>exact⟨a,b,0,rfl,rfl,rfl,D,hb,Nat.zero_le _,by show _=_;simp⟩
 case round=>
  obtain⟨A,B,S,rfl,rfl,rfl,i,hB,o,hid⟩:=hrel;have E:A<2^12:=(aS _ _).1 (by have:=l.out;omega);have F:B<2^12:=(aS _ _).1 (by have:=l.out;omega);have G:S<2^12:=(aS _ _).1 (by have:=l.out;omega);have K:A<=4096:=oO;have L:B<=4096:=oO;have v:bits BinOp.xor IntKind.i64 (S:Int) (A:Int)=((S^^^A:Nat):Int):=fU _ _ oO oO;have C:=Lib.hid v;clear v;have r:Hid (B<2^62):=by show B<2^62;omega
  clear E F G;go_wp2
  ·rename_i q j k
   have f:=oQ d p A B S _ g.out i hB o hid.out true (Dv r.out j) _ rfl;rw[C.out,G5 m.out g.out i k l.out];exact⟨⟨_,B/2,_,rfl,by go_num,rfl,f.1,f.2.1,f.2.2.1,f.2.2.2⟩,by simp[intOf];omega⟩
  ·rename_i q j k
   have f:=oQ d p A B S _ g.out i hB o hid.out true (Dv r.out j) _ rfl;rw[C.out,Ga m.out g.out i k];exact⟨⟨_,B/2,_,rfl,by go_num,rfl,f.1,f.2.1,f.2.2.1,f.2.2.2⟩,by simp[intOf];omega⟩
  ·rename_i q j k
   have f:=oQ d p A B S _ g.out i hB o hid.out false (G0 r.out j) _ rfl;rw[G5 m.out g.out i k l.out];exact⟨⟨_,B/2,_,rfl,by go_num,rfl,f.1,f.2.1,f.2.2.1,f.2.2.2⟩,by simp[intOf];omega⟩
  ·rename_i q j k
   have f:=oQ d p A B S _ g.out i hB o hid.out false (G0 r.out j) _ rfl;rw[Ga m.out g.out i k];exact⟨⟨_,B/2,_,rfl,by go_num,rfl,f.1,f.2.1,f.2.2.1,f.2.2.2⟩,by simp[intOf];omega⟩
  ·rename_i q j
   obtain rfl:B=0:=oO;go_ret;refine⟨bG ?_,(Below.refl _ _).alloc (Nat.le_refl _) _⟩;have:=hid.out;have M:=g.out;rw[fB,jw 0 p (by rw[dI];omega),Nat.xor_zero]at this;rw[<-this]
theorem yT (s a b:Nat) (c:Int) (w:World) (hs:2<s) (i:s<=4096) (d:a<s) (hb:b<s):
 Calls Tryz.prog 196 #[aN c s 0,.int .i64 a,.int .i64 b] w λe w'=>e= .returned (.int .i64 (a* b%s:Nat))/\Below w.heap.size w w':=by
 have j:a* b<=4096* 4096:=Nat.mul_le_mul oO oO;have f:(0:Int)<=(a:Int)* b:=by
  have:(0:Int)<=((a* b:Nat):Int):=oO;simpa using this
 have g:(a:Int)* b<=16777216:=by
  have:((a* b:Nat):Int)<=16777216:=oO;simpa using this
 go_enter Tryz.func196,Tryz.ntmps196;go_wp2;go_ret;exact⟨bG oS,(Below.refl _ _).alloc (Nat.le_refl _) _⟩
theorem zc {S:Nat} (a d:Nat) (hs:S=2^d) (b:a<S):bl a<=d:=(aS _ _).2 (by rw[<-hs];exact b)
theorem tm (C S P:Nat) (a b:Int) (w:World) (i:VF C S P) (k:0<=a) (n:a<S) (l:0<=b) (hb:b<S):
 Calls Tryz.prog 196 #[aN C S P,.int .i64 a,.int .i64 b] w λe w'=>e= .returned (.int .i64 (au S P a.toNat b.toNat:Nat))/\Below w.heap.size w w':=by
 obtain⟨A,rfl⟩:=Int.eq_ofNat_of_zero_le k;obtain⟨B,rfl⟩:=Int.eq_ofNat_of_zero_le l;rw[Int.toNat_natCast,Int.toNat_natCast];unfold au;rcases i with⟨j,hc,f,c,-⟩|⟨d,o,f,g,c,-,-⟩
 ·subst j;rw[if_pos rfl];exact yT S A B C w f c oO oO
 ·have m:P≠0:=by intro h;subst h;rw[dI]at g;omega
  rw[if_neg m];exact Ck d S P A B C w f c.symm g (zc A d c oO) (zc B d c oO) (beq_false_of_ne oO)
theorem EU (A X k:Nat):bJ (A* 2^k) X=(if X%2=1 then A* 2^k else 0)^^^bJ (A* 2^(k+1)) (X/2):=by
 rw[eM,<-oJ,show 2* (A* 2^k)=A* 2^(k+1)from by rw[Nat.pow_succ];ac_rfl]
theorem ve (A B Q k R:Nat) (g:bl A<=12) (hB:bl B<=12) (b:bl Q<=24) (e:0<B/2^k) (hid:Q^^^bJ (A* 2^k) (B/2^k)=R) (a:Bool) (c:decide (B/2^k%2=1)=a):
 k<12/\bl (if a then Q^^^A* 2^k else Q)<=24/\(if a then Q^^^A* 2^k else Q)^^^bJ (A* 2^(k+1)) (B/2^(k+1))=R:=by
 have f:k<12:=by
  rcases Nat.lt_or_ge k 12 with h|h
  ·exact h
  ·exfalso;have i:=(aS B 12).1 hB;have j:2^12<=2^k:=Nat.pow_le_pow_right oO h;rw[Nat.div_eq_of_lt oO]at e;omega
 refine⟨f,?_,?_⟩
 ·cases a
  ·exact b
  ·refine k8 _ _ _ b ?_;by_cases d:A=0
   ·subst d;rw[Nat.zero_mul,dI];omega
   ·rw[qX A k d];omega
 ·rw[<-hid,EU A (B/2^k) k,Nat.div_div_eq_div_mul,<-Nat.pow_succ];cases a
  ·have:¬B/2^k%2=1:=by simpa using c
   simp[this]
  ·have:B/2^k%2=1:=by simpa using c
   simp only[this,if_true];rw[Nat.xor_assoc]
theorem JK {B k:Nat} (hB:B<2^40) (h:(bits BinOp.and IntKind.i64 ((B:Int)/2^k) 1==1)=true):decide (B/2^k%2=1)=true:=by
 rw[sM B k hB]at h;rw[decide_eq_true_iff];exact Int.ofNat.inj (eq_of_beq h)
theorem KA {B k:Nat} (hB:B<2^40) (h:(bits BinOp.and IntKind.i64 ((B:Int)/2^k) 1==1)=false):decide (B/2^k%2=1)=false:=by
 rw[sM B k hB]at h;rw[decide_eq_false_iff_not];intro e;rw[e]at h;cases h
theorem tu {b k:Nat} (h:(0:Int)<(b:Int)/2^k):0<b/2^k:=by
 rw[show((b:Int)/2^k)=((b/2^k:Nat):Int)from by simp]at h;generalize b/2^k=N at*;omega
theorem BA {b k:Nat} (h:(b:Int)/2^k<=0):b/2^k=0:=by
 rw[show((b:Int)/2^k)=((b/2^k:Nat):Int)from by simp]at h;generalize b/2^k=N at*;omega
theorem Fx (a Q k:Nat) (e:bl a<=12) (f:k<=12) (c:bl Q<=24):bits BinOp.xor IntKind.i64 (Q:Int) (wrap64 ((a:Int)* 2^k))=((Q^^^a* 2^k:Nat):Int):=by
 have d:bl (a* 2^k)<=24:=by
  by_cases b:a=0
  ·subst b;rw[Nat.zero_mul,dI];omega
  ·rw[qX a k b];omega
 have g:=(aS _ _).1 d;have i:=(aS _ _).1 c;rw[show((a:Int)* 2^k)=((a* 2^k:Nat):Int)from by simp];generalize a* 2^k=N at*;rw[IntWalk.wrap64_in _ oO,fU _ _ oO oO]
theorem Gt (s p a b:Nat) (w:World) (t:bl p<=13) (u:0<p) (f:bl a<=12) (hb:bl b<=12):
 Calls Tryz.prog 148 #[aN 2 s p,.int .i64 a,.int .i64 b] w λe w'=>e= .returned (.int .i64 (cmod (bJ a b) p))/\Below w.heap.size w w':=by
 have v:a<=4096:=by have:=(aS _ _).1 f;omega
 have z:b<=4096:=by have:=(aS _ _).1 hb;omega
 go_enter Tryz.func148,Tryz.ntmps148;go_wp2_with fail
 go_loop [7,8] (λx y=>∃Q k:Nat,x= .int .i64 Q/\y= .int .i64 k/\k<=12/\bl Q<=24/\Hid (Q^^^bJ (a* 2^k) (b/2^k)=bJ a b)) (λ_ y=>20-(intOf y).toNat)
 case atStart=>exact⟨0,0,rfl,rfl,by omega,Nat.zero_le _,by show _=_;simp⟩
 case round=>
  obtain⟨Q,k,rfl,rfl,q,g,hid⟩:=hrel;have n:=Lib.hid hb;clear hb;have i:=Lib.hid f;clear f;go_wp2_with fail
  ·rename_i c j
   have m:b<2^40:=oO;have d:=ve a b Q k _ i.out n.out g (tu c) hid.out true (JK m j);rw[Fx a Q k i.out q g];exact⟨⟨_,k+1,rfl,by go_num,by omega,d.2.1,d.2.2⟩,by simp[intOf];omega⟩
  ·rename_i c j
   have m:b<2^40:=oO;have d:=ve a b Q k _ i.out n.out g (tu c) hid.out false (KA m j);exact⟨⟨_,k+1,rfl,by go_num,by omega,d.2.1,d.2.2⟩,by simp[intOf];omega⟩
  ·have c:(b:Int)/2^k<=0:=by assumption
   have o:=BA c;have l:=hid.out;rw[o,fB,Nat.xor_zero]at l;have r:=Lib.hid l;clear l;clear o;refine(sx _ _ _ oO (by rw[Int.toNat_natCast];omega) oO (by rw[Int.toNat_natCast];omega)).mono ?_;rintro e w' ⟨rfl,rfl⟩;go_wp2;go_ret;exact⟨bG (by rw[r.out]),(Below.refl _ _).alloc (Nat.le_refl _) _⟩
theorem BU (s a b:Nat) (c:Int) (w:World) (hc:(c==2)=false) (hs:2<s) (i:s<=4096) (d:a<s) (hb:b<s):
 Calls Tryz.prog 148 #[aN c s 0,.int .i64 a,.int .i64 b] w λe w'=>e= .returned (.int .i64 (a* b%s:Nat))/\Below w.heap.size w w':=by
 have j:a* b<=4096* 4096:=Nat.mul_le_mul oO oO;have f:(0:Int)<=(a:Int)* b:=by
  have:(0:Int)<=((a* b:Nat):Int):=oO;simpa using this
 have g:(a:Int)* b<=16777216:=by
  have:((a* b:Nat):Int)<=16777216:=oO;simpa using this
 go_enter Tryz.func148,Tryz.ntmps148;go_wp2;go_ret;exact⟨bG oS,(Below.refl _ _).alloc (Nat.le_refl _) _⟩
theorem mL (C S P:Nat) (a b:Int) (w:World) (g:VF C S P) (k:0<=a) (n:a<S) (l:0<=b) (hb:b<S):
 Calls Tryz.prog 148 #[aN C S P,.int .i64 a,.int .i64 b] w λe w'=>e= .returned (.int .i64 (au S P a.toNat b.toNat:Nat))/\Below w.heap.size w w':=by
 obtain⟨A,rfl⟩:=Int.eq_ofNat_of_zero_le k;obtain⟨B,rfl⟩:=Int.eq_ofNat_of_zero_le l;rw[Int.toNat_natCast,Int.toNat_natCast];unfold au;rcases g with⟨i,hc,c,f,-⟩|⟨d,o,c,j,f,hc,-⟩
 ·subst i;rw[if_pos rfl];exact BU S A B C w (beq_false_of_ne oO) c f oO oO
 ·have m:P≠0:=by intro h;subst h;rw[dI]at j;omega
  rw[if_neg m];subst hc;exact Gt S P A B w oO oO (Nat.le_trans (zc A d f oO) c) (Nat.le_trans (zc B d f oO) c)
def cP (w:World) (c s p:Int) (wr:World):Prop:=
 Below w.heap.size w wr/\w.heap.size<wr.heap.size/\wr.cell? ⟨w.heap.size,0,none⟩=some (.int .i64 c)/\wr.cell? ⟨w.heap.size,1,none⟩=some (.int .i64 s)/\wr.cell? ⟨w.heap.size,2,none⟩=some (.int .i64 p)
theorem cP.start (w:World) (c s p:Int) (t:Nat):cP w c s p (w.alloc (.cells #[.int .i64 c,.int .i64 s,.int .i64 p] t)):=by
 refine⟨(Below.refl _ _).alloc (Nat.le_refl _) _,by simp,?_,?_,?_⟩<;>go_simp
theorem cP.step {w wr b:World} {c s p:Int} (h:cP w c s p wr) (hb:Below wr.heap.size wr b):cP w c s p b:=by
 obtain⟨d,a,e,f,g⟩:=h;exact⟨d.trans (hb.mono oO),Nat.lt_of_lt_of_le a hb.size,(hb.cell a).trans e,(hb.cell a).trans f,(hb.cell a).trans g⟩
theorem cP.drew {w wr:World} {c s p:Int} (h:cP w c s p wr):cP w c s p wr.drew:=⟨h.1.drew,h.2.1,h.2.2.1,h.2.2.2.1,h.2.2.2.2⟩
theorem cP.below {w wr:World} {c s p:Int} (h:cP w c s p wr):Below w.heap.size w wr:=h.1
theorem qB (C S P a n:Nat) (w:World) (g:VF C S P) (s:a<S) (hn:n<=1000000):
 Calls Tryz.prog 213 #[aN C S P,.int .i64 a,.int .i64 n] w λe w'=>e= .returned (.int .i64 (fpowN S P a n:Nat))/\Below w.heap.size w w':=by
 have E:=g.le;have J:=g.aG;have b:=Lib.hid g;clear g;go_enter Tryz.func213,Tryz.ntmps213;go_wp2_with fail
 go_loopw [1,2,7] (λx y z wr=>∃A N R:Nat,x= .int .i64 A/\y= .int .i64 N/\z= .int .i64 R/\A<S/\N<=1000000/\R<S/\Hid (au S P R (fpowN S P A N)=fpowN S P a n)/\cP w C S P wr) (λ_ y _ _=>(intOf y).toNat)
 case atStart=>exact⟨a,n,1,rfl,rfl,rfl,s,hn,by omega,uw b.out _ (lZ b.out _ _),cP.start w C S P _⟩
 case round=>
  obtain⟨A,N,R,rfl,rfl,rfl,o,F,i,hid,m⟩:=hrel;obtain⟨p,K,L,M,O⟩:=id m;have q:=Lib.hid m;clear m;have u:=Lib.hid p;clear p;by_cases G:0<N
  ·by_cases j:N%2=1
   ·have v:((N:Int)%2==1)=true:=by
     rw[beq_iff_eq];omega
    have k:=Lib.hid j;clear j;go_wp2_with fail
    refine(mL C S P _ _ _ b.out oO oO oO oO).mono ?_;rintro e t ⟨rfl,d⟩;have f:=q.out.step d;obtain⟨-,V,Q,T,U⟩:=id f;have B:=Lib.hid f;clear f d;go_wp2_with fail
    refine(mL C S P _ _ _ b.out oO oO oO oO).mono ?_;rintro e H ⟨rfl,r⟩;have D:=Lib.hid (B.out.step r);clear r;have c:=Lib.hid ((pow_odd b.out R A N i o k.out).trans hid.out);clear hid;go_wp2_with fail
    exact⟨⟨au S P A A,N/2,au S P R A,rfl,by go_num,rfl,aO b.out _ _,by omega,aO b.out _ _,c.out,D.out⟩,by simp[intOf];omega⟩
   ·have v:((N:Int)%2==1)=false:=by
     rw[beq_eq_false_iff_ne];omega
    have k:Hid (N%2=0):=by show N%2=0;omega
    clear j;go_wp2_with fail
    refine(mL C S P _ _ _ b.out oO oO oO oO).mono ?_;rintro e t ⟨rfl,d⟩;have f:=Lib.hid (q.out.step d);clear d;have c:=Lib.hid ((pow_even b.out R A N i o k.out).trans hid.out);clear hid;go_wp2_with fail
    exact⟨⟨au S P A A,N/2,R,rfl,by go_num,rfl,aO b.out _ _,by omega,i,c.out,f.out⟩,by simp[intOf];omega⟩
  ·obtain rfl:N=0:=oO;have l:=hid.out;rw[show fpowN S P A 0=1 from rfl,tW b.out R i]at l;have c:=Lib.hid l;clear l hid;go_wp2_with fail
   go_ret;exact⟨bG (by rw[c.out]),u.out⟩
theorem EC (C S P:Nat) (a n:Int) (w:World) (b:VF C S P) (c:0<=a) (f:a<S) (d:0<=n) (hn:n<=1000000):
 Calls Tryz.prog 213 #[aN C S P,.int .i64 a,.int .i64 n] w λe w'=>e= .returned (.int .i64 (fpowN S P a.toNat n.toNat:Nat))/\Below w.heap.size w w':=by
 obtain⟨A,rfl⟩:=Int.eq_ofNat_of_zero_le c;obtain⟨N,rfl⟩:=Int.eq_ofNat_of_zero_le d;exact qB C S P A N w b oO oO
theorem VF.Mv {c s p:Nat} (h:VF c s p) (a:p=0):c≠2/\2<s:=by
 rcases h with⟨_,e,f,-⟩|⟨d,_,_,b,_⟩
 ·omega
 ·subst a;rw[dI]at b;omega
theorem VF.even {c s p:Nat} (h:VF c s p) (f:p≠0):c=2/\2<=p:=by
 rcases h with⟨a,_⟩|⟨d,a,_,g,_,b,_⟩
 ·omega
 ·refine⟨b,?_⟩;rcases Nat.lt_or_ge p 2 with h|h
  ·have:p=1:=oO;subst this;have e:bl 1=1:=by decide
   omega
  ·exact h
theorem Fj (C S P:Nat) (a b:Int) (w:World) (c:VF C S P) (g:0<=a) (j:a<S) (i:0<=b) (hb:b<S):
 Calls Tryz.prog 146 #[aN C S P,.int .i64 a,.int .i64 b] w λe w'=>e= .returned (.int .i64 (aT S P a.toNat b.toNat:Nat))/\Below w.heap.size w w':=by
 have k:=c.le;have l:=c.aG;by_cases d:P=0
 ·have hc:(((C:Nat):Int)==2)=false:=by rw[beq_eq_false_iff_ne];have:=(c.Mv d).1;omega
  have f:Hid ((aT S P a.toNat b.toNat:Nat)=(a+b)%(S:Int)):=by
   show _=_;unfold aT;rw[if_pos d,Int.natCast_emod,show((a.toNat+b.toNat:Nat):Int)=a+b from by omega]
  clear c d;go_enter Tryz.func146,Tryz.ntmps146;go_wp2;go_ret;exact⟨bG (by rw[f.out]),(Below.refl _ _).alloc (Nat.le_refl _) _⟩
 ·have hc:(((C:Nat):Int)==2)=true:=by rw[beq_iff_eq];have:=(c.even d).1;omega
  have f:Hid ((aT S P a.toNat b.toNat:Nat)=bits BinOp.xor IntKind.i64 a b):=by
   show _=_;unfold aT;rw[if_neg d,CZ a b g oO i oO]
  clear c d;go_enter Tryz.func146,Tryz.ntmps146;go_wp2;go_ret;exact⟨bG (by rw[f.out]),(Below.refl _ _).alloc (Nat.le_refl _) _⟩
theorem EM (C S P:Nat) (a b:Int) (w:World) (c:VF C S P) (g:0<=a) (j:a<S) (i:0<=b) (hb:b<S):
 Calls Tryz.prog 147 #[aN C S P,.int .i64 a,.int .i64 b] w λe w'=>e= .returned (.int .i64 (aM S P a.toNat b.toNat:Nat))/\Below w.heap.size w w':=by
 have k:=c.le;have l:=c.aG;by_cases d:P=0
 ·have hc:(((C:Nat):Int)==2)=false:=by rw[beq_eq_false_iff_ne];have:=(c.Mv d).1;omega
  have f:Hid ((aM S P a.toNat b.toNat:Nat)=(a+(S:Int)-b)%(S:Int)):=by
   show _=_;unfold aM;rw[if_pos d,Int.natCast_emod,show((a.toNat+S-b.toNat:Nat):Int)=a+S-b from by omega]
  clear c d;go_enter Tryz.func147,Tryz.ntmps147;go_wp2;go_ret;exact⟨bG (by rw[f.out]),(Below.refl _ _).alloc (Nat.le_refl _) _⟩
 ·have hc:(((C:Nat):Int)==2)=true:=by rw[beq_iff_eq];have:=(c.even d).1;omega
  have f:Hid ((aM S P a.toNat b.toNat:Nat)=bits BinOp.xor IntKind.i64 a b):=by
   show _=_;unfold aM;rw[if_neg d,CZ a b g oO i oO]
  clear c d;go_enter Tryz.func147,Tryz.ntmps147;go_wp2;go_ret;exact⟨bG (by rw[f.out]),(Below.refl _ _).alloc (Nat.le_refl _) _⟩
theorem Fe (C S P a k:Nat) (w:World) (b:VF C S P) (l:a<S) (c:lG S P a k) (B:k<=4096):
 Calls Tryz.prog 221 #[aN C S P,.int .i64 a] w λe w'=>e= .returned (.int .i64 k)/\Below w.heap.size w w':=by
 have u:=b.le;have D:=b.aG;have d:=Lib.hid b;clear b;have E:=c.1;have m:=Lib.hid c;clear c;go_enter Tryz.func221,Tryz.ntmps221;go_wp2_with fail
 go_loopw [5,6] (λy x wr=>∃j X:Nat,y= .int .i64 j/\x= .int .i64 X/\1<=j/\j<=k/\X<S/\Hid (X=fpowN S P a j)/\cP w C S P wr) (λy _ _=>k-(intOf y).toNat)
 case atStart=>exact⟨1,a,rfl,rfl,by omega,by omega,l,(uw d.out a l).symm,cP.start w C S P _⟩
 case round=>
  obtain⟨j,X,rfl,rfl,q,v,z,hid,g⟩:=hrel;obtain⟨n,F,G,H,J⟩:=id g;have r:=Lib.hid g;clear g;have s:=Lib.hid n;clear n;by_cases f:X=1
  ·subst f;have i:j=k:=by
    by_cases h:j<k
    ·exact absurd hid.out.symm (m.out.2.2 j q h)
    ·omega
   have o:=Lib.hid i;clear i;go_wp2_with fail
   go_ret;exact⟨bG (by rw[o.out]),s.out⟩
  ·have i:j<k:=by
    rcases Nat.lt_or_ge j k with h|h
    ·exact h
    ·exfalso;apply f;have:j=k:=oO;subst this;rw[hid.out];exact m.out.2.1
   have K:(((X:Nat):Int)!=1)=true:=by rw[bne_iff_ne];omega
   have p:Hid (au S P X a=fpowN S P a (j+1)):=by show _=au S P (fpowN S P a j) a;rw[<-hid.out]
   clear f hid;go_wp2_with(go_at_call 196;refine(tm C S P _ _ _ d.out oO oO oO oO).mono ?_;rintro e A ⟨rfl,t⟩)
   exact⟨⟨j+1,au S P X a,by go_num,rfl,by omega,by omega,aO d.out _ _,p.out,r.out.step t⟩,by simp[intOf];omega⟩
theorem ED (C S P a k:Nat) (w:World) (b:VF C S P) (l:a<S) (c:lG S P a k) (B:k<S):
 Calls Tryz.prog 223 #[aN C S P,.int .i64 a] w λe w'=>e= .returned (.int .i64 k)/\Below w.heap.size w w':=by
 have u:=b.le;have D:=b.aG;have d:=Lib.hid b;clear b;have E:=c.1;have m:=Lib.hid c;clear c;go_enter Tryz.func223,Tryz.ntmps223;go_wp2_with fail
 go_loopw [5,6] (λy x wr=>∃j X:Nat,y= .int .i64 j/\x= .int .i64 X/\1<=j/\j<=k/\X<S/\Hid (X=fpowN S P a j)/\cP w C S P wr) (λy _ _=>k-(intOf y).toNat)
 case atStart=>exact⟨1,a,rfl,rfl,by omega,by omega,l,(uw d.out a l).symm,cP.start w C S P _⟩
 case round=>
  obtain⟨j,X,rfl,rfl,q,v,z,hid,g⟩:=hrel;obtain⟨n,F,G,H,J⟩:=id g;have r:=Lib.hid g;clear g;have s:=Lib.hid n;clear n;by_cases f:X=1
  ·subst f;have i:j=k:=by
    by_cases h:j<k
    ·exact absurd hid.out.symm (m.out.2.2 j q h)
    ·omega
   have o:=Lib.hid i;clear i;go_wp2_with fail
   go_ret;exact⟨bG (by rw[o.out]),s.out⟩
  ·have i:j<k:=by
    rcases Nat.lt_or_ge j k with h|h
    ·exact h
    ·exfalso;apply f;have:j=k:=oO;subst this;rw[hid.out];exact m.out.2.1
   have K:(((X:Nat):Int)!=1)=true:=by rw[bne_iff_ne];omega
   have p:Hid (au S P X a=fpowN S P a (j+1)):=by show _=au S P (fpowN S P a j) a;rw[<-hid.out]
   clear f hid;go_wp2_with(go_at_call 148;refine(mL C S P _ _ _ d.out oO oO oO oO).mono ?_;rintro e A ⟨rfl,t⟩)
   exact⟨⟨j+1,au S P X a,by go_num,rfl,by omega,by omega,aO d.out _ _,p.out,r.out.step t⟩,by simp[intOf];omega⟩
theorem yp (C S P:Nat) (a:Int) (w:World) (b:VF C S P) (d:0<a) (f:a<S):
 Calls Tryz.prog 221 #[aN C S P,.int .i64 a] w λe w'=>e= .returned (.int .i64 (nk S P a.toNat:Nat))/\Below w.heap.size w w':=by
 obtain⟨A,rfl⟩:=Int.eq_ofNat_of_zero_le (Int.le_of_lt d);have c:=oU b (a:=A) oO oO;have:=b.le;rw[Int.toNat_natCast];exact Fe C S P A _ w b oO c.1 (by have:=c.2;omega)
theorem vg (C S P:Nat) (a:Int) (w:World) (b:VF C S P) (d:0<a) (f:a<S):
 Calls Tryz.prog 223 #[aN C S P,.int .i64 a] w λe w'=>e= .returned (.int .i64 (nk S P a.toNat:Nat))/\Below w.heap.size w w':=by
 obtain⟨A,rfl⟩:=Int.eq_ofNat_of_zero_le (Int.le_of_lt d);have c:=oU b (a:=A) oO oO;rw[Int.toNat_natCast];exact ED C S P A _ w b oO c.1 (by have:=c.2;omega)
theorem kW {w:World} {c s p:Int} {wr:World} (h:cP w c s p wr):(wr.cell? ⟨w.heap.size,0,none⟩=some (.int .i64 c)/\wr.cell? ⟨w.heap.size,1,none⟩=some (.int .i64 s)/\wr.cell? ⟨w.heap.size,2,none⟩=some (.int .i64 p))/\cP w c s p wr:=⟨h.2.2,h⟩
theorem yD (C S P:Nat) (w:World) (b:VF C S P):
 Calls Tryz.prog 195 #[aN C S P] w λe w'=>e= .returned (.int .i64 (aw S P:Nat))/\Below w.heap.size w w':=by
 have v:=b.le;have z:=b.aG;have hg:=iz b;have A:=hg.1;have m:=hg.2.1;have c:=Lib.hid b;clear b;have k:=Lib.hid hg;clear hg;go_enter Tryz.func195,Tryz.ntmps195;go_wp2_with fail
 go_loopw [3] (λx wr=>∃X:Nat,x= .int .i64 X/\1<=X/\X<=aw S P/\cP w C S P wr) (λx _=>aw S P-(intOf x).toNat)
 case atStart=>exact⟨1,rfl,by omega,by omega,cP.start w C S P _⟩
 case round=>
  obtain⟨X,rfl,r,y,d⟩:=hrel;obtain⟨n,B,D,E,F⟩:=id d;have o:=Lib.hid d;clear d;have G:=Lib.hid n;clear n;have H:X<S:=oO;have f:=Lib.hid m;clear m;by_cases s:X<aw S P
  ·have t:(((nk S P X:Nat):Int)!=(S:Int)-1)=true:=by
    rw[bne_iff_ne];intro e;have l:=oU c.out (a:=X) (by have:=f.out;omega) oO;have e2:nk S P X=S-1:=oO;rw[e2]at l;exact k.out.2.2.2 X r s l.1
   have g:IntKind.i64.wrap ((S:Int)-1)=(S:Int)-1:=IntWalk.i64_in _ oO;go_wp2_with fail
   go_region_held3 (λw'=>(w'.cell? ⟨w.heap.size,0,none⟩=some (.int .i64 C)/\w'.cell? ⟨w.heap.size,1,none⟩=some (.int .i64 S)/\w'.cell? ⟨w.heap.size,2,none⟩=some (.int .i64 P))/\cP w C S P w') (first|exact kW (cP.drew o.out)|exact kW (by assumption)) (first|(go_at_call 221;refine(yp C S P _ _ c.out oO (by have:=f.out;omega)).mono ?_;rintro e p ⟨rfl,i⟩;have u:=cP.step (And.right (by assumption)) i))
   all_goals clear g
   all_goals go_wp2
   all_goals exact⟨⟨X+1,by go_num,by omega,by omega,And.right (by assumption)⟩,by simp[intOf];omega⟩
  ·have j:X=aw S P:=oO;have t:(((nk S P X:Nat):Int)!=(S:Int)-1)=false:=by
    rw[j,xp k.out.2.2.1,bne_eq_false_iff_eq];omega
   have q:=Lib.hid j;clear j;have g:IntKind.i64.wrap ((S:Int)-1)=(S:Int)-1:=IntWalk.i64_in _ oO;go_wp2_with fail
   go_region_held3 (λw'=>(w'.cell? ⟨w.heap.size,0,none⟩=some (.int .i64 C)/\w'.cell? ⟨w.heap.size,1,none⟩=some (.int .i64 S)/\w'.cell? ⟨w.heap.size,2,none⟩=some (.int .i64 P))/\cP w C S P w') (first|exact kW (cP.drew o.out)|exact kW (by assumption)) (first|(go_at_call 221;refine(yp C S P _ _ c.out oO (by have:=f.out;omega)).mono ?_;rintro e p ⟨rfl,i⟩;have u:=cP.step (And.right (by assumption)) i))
   all_goals clear g
   all_goals go_wp2
   all_goals go_ret
   all_goals exact⟨bG (by rw[q.out]),cP.below (And.right (by assumption))⟩
theorem rq (C S P:Nat) (w:World) (b:VF C S P):
 Calls Tryz.prog 210 #[aN C S P] w λe w'=>e= .returned (.int .i64 (aw S P:Nat))/\Below w.heap.size w w':=by
 have v:=b.le;have z:=b.aG;have hg:=iz b;have A:=hg.1;have l:=hg.2.1;have c:=Lib.hid b;clear b;have j:=Lib.hid hg;clear hg;go_enter Tryz.func210,Tryz.ntmps210;go_wp2_with fail
 go_loopw [3] (λx wr=>∃X:Nat,x= .int .i64 X/\1<=X/\X<=aw S P/\cP w C S P wr) (λx _=>aw S P-(intOf x).toNat)
 case atStart=>exact⟨1,rfl,by omega,by omega,cP.start w C S P _⟩
 case round=>
  obtain⟨X,rfl,q,y,d⟩:=hrel;obtain⟨m,B,D,E,F⟩:=id d;have n:=Lib.hid d;clear d;have G:=Lib.hid m;clear m;have H:X<S:=oO;have r:=Lib.hid l;clear l;by_cases s:X<aw S P
  ·have t:(((nk S P X:Nat):Int)==(S:Int)-1)=false:=by
    rw[beq_eq_false_iff_ne];intro e;have k:=oU c.out (a:=X) (by have:=r.out;omega) oO;have e2:nk S P X=S-1:=oO;rw[e2]at k;exact j.out.2.2.2 X q s k.1
   have f:IntKind.i64.wrap ((S:Int)-1)=(S:Int)-1:=IntWalk.i64_in _ oO;go_wp2_with fail
   go_region_held3 (λw'=>(w'.cell? ⟨w.heap.size,0,none⟩=some (.int .i64 C)/\w'.cell? ⟨w.heap.size,1,none⟩=some (.int .i64 S)/\w'.cell? ⟨w.heap.size,2,none⟩=some (.int .i64 P))/\cP w C S P w') (first|exact kW (cP.drew n.out)|exact kW (by assumption)) (first|(go_at_call 223;refine(vg C S P _ _ c.out oO oO).mono ?_;rintro e o ⟨rfl,g⟩;have u:=cP.step (And.right (by assumption)) g))
   all_goals clear f
   all_goals go_wp2
   all_goals exact⟨⟨X+1,by go_num,by omega,by omega,And.right (by assumption)⟩,by simp[intOf];omega⟩
  ·have i:X=aw S P:=oO;have t:(((nk S P X:Nat):Int)==(S:Int)-1)=true:=by
    rw[i,xp j.out.2.2.1,beq_iff_eq];omega
   have p:=Lib.hid i;clear i;have f:IntKind.i64.wrap ((S:Int)-1)=(S:Int)-1:=IntWalk.i64_in _ oO;go_wp2_with fail
   go_region_held3 (λw'=>(w'.cell? ⟨w.heap.size,0,none⟩=some (.int .i64 C)/\w'.cell? ⟨w.heap.size,1,none⟩=some (.int .i64 S)/\w'.cell? ⟨w.heap.size,2,none⟩=some (.int .i64 P))/\cP w C S P w') (first|exact kW (cP.drew n.out)|exact kW (by assumption)) (first|(go_at_call 223;refine(vg C S P _ _ c.out oO oO).mono ?_;rintro e o ⟨rfl,g⟩;have u:=cP.step (And.right (by assumption)) g))
   all_goals clear f
   all_goals go_wp2
   all_goals go_ret
   all_goals exact⟨bG (by rw[p.out]),cP.below (And.right (by assumption))⟩
theorem ow (c s p a b:Int) (k:Nat) (w:World) (f:p<=9223372036854775807) (j:k<w.heap.size) (l:w.cell? ⟨k,0,none⟩=some (.int .i64 a)) (m:w.cell? ⟨k,1,none⟩=some (.int .i64 b)):
 Calls Tryz.prog 157 #[aN c s p,.slice (some ⟨k,0,none⟩) 2 2] w λe w'=>e= .returned (.bool (aW c s p&&gB s [a,b]))/\Below w.heap.size w w':=by
 cases g:aW c s p
 ·exact Ff c s p _ w f g
 ·refine Kn c s p [a,b] k w f g oS j ?_;intro i d
  match i,d with
  |0,_=>exact l
  |1,_=>exact m
  |n+2,d=>simp at d;omega
theorem zo (c s p:Int) (w:World) (a:p<=9223372036854775807):
 Calls Tryz.prog 157 #[aN c s p,.slice none 0 0] w λe w'=>e= .returned (.bool (aW c s p))/\Below w.heap.size w w':=by
 cases b:aW c s p
 ·exact Ff c s p _ w a b
 ·exact IZ c s p w a b
abbrev rX (x:Int×Int):Value:= .tuple #[.int .i64 x.1,.int .i64 x.2]
theorem pF {c s p:Int} (h:aW c s p=true):∃C S P:Nat,c=C/\s=S/\p=P/\VF C S P:=by
 unfold aW at h;by_cases b:p=0
 ·rw[if_pos b]at h;simp only[Bool.and_eq_true,decide_eq_true_iff]at h;obtain⟨⟨⟨d,f⟩,e⟩,a⟩:=h;refine⟨c.toNat,s.toNat,0,by omega,by omega,by omega,.inl ⟨rfl,by omega,by omega,by omega,a⟩⟩
 ·rw[if_neg b]at h;simp only[Bool.and_eq_true,decide_eq_true_iff]at h;obtain⟨⟨⟨⟨d,f⟩,e⟩,a⟩,g⟩:=h;have hb:=oY p d;have hs:s.toNat=2^(bl p.toNat-1):=by rw[a];exact Int.toNat_natCast _
  have i:s=(s.toNat:Int):=(Int.toNat_of_nonneg (by rw[a];exact Int.natCast_nonneg _)).symm;exact⟨2,s.toNat,p.toNat,e,i,by omega,.inr ⟨bl p.toNat-1,by omega,by omega,by omega,hs,rfl,g⟩⟩
theorem cP.alloc {w wr:World} {c s p:Int} (h:cP w c s p wr) (a:Obj):cP w c s p (wr.alloc a):=by
 have:=Below.heap_alloc wr a w.heap.size h.2.1;refine⟨h.1.alloc h.1.size _,by have:=h.2.1;simp;omega,?_,?_,?_⟩
 ·exact(World.cell?_of_block this).trans h.2.2.1
 ·exact(World.cell?_of_block this).trans h.2.2.2.1
 ·exact(World.cell?_of_block this).trans h.2.2.2.2
def oe (s a:Int):Bool:=decide (0<=a)&&decide (a<s)
def Mz (c s p a:Int):Bool:=aW c s p&&oe s a
def rj (c s p a b:Int):Bool:=aW c s p&&oe s a&&oe s b
theorem sk (c s p a b:Int):(aW c s p&&gB s [a,b])=rj c s p a b:=by simp[gB,rj,oe,Bool.and_assoc]
theorem MN {c s p a:Int} (h:Mz c s p a=true):∃C S P A:Nat,c=C/\s=S/\p=P/\a=A/\A<S/\VF C S P:=by
 unfold Mz oe at h;simp only[Bool.and_eq_true,decide_eq_true_iff]at h;obtain⟨C,S,P,rfl,rfl,rfl,b⟩:=pF h.1;exact⟨C,S,P,a.toNat,rfl,rfl,rfl,by omega,by omega,b⟩
theorem Dr {c s p a b:Int} (h:rj c s p a b=true):∃C S P A B:Nat,c=C/\s=S/\p=P/\a=A/\b=B/\A<S/\B<S/\VF C S P:=by
 unfold rj oe at h;simp only[Bool.and_eq_true,decide_eq_true_iff]at h;obtain⟨C,S,P,rfl,rfl,rfl,d⟩:=pF h.1.1;exact⟨C,S,P,a.toNat,b.toNat,rfl,rfl,rfl,by omega,by omega,by omega,by omega,d⟩
theorem j5 {C S P:Nat} (h:VF C S P):aW C S P=true:=by
 have a:=h.aG;unfold aW;rcases h with⟨f,a,b,g,c⟩|⟨d,f,a,b,g,c,i⟩
 ·subst f;subst a;rw[if_pos (by rfl)];simp[c];omega
 ·have j:¬((P:Nat):Int)=0:=by
   intro h;have:P=0:=oO
   subst this;rw[dI]at b;omega
  have k:2<=P:=by
   rcases Nat.lt_or_ge P 2 with h|h
   ·have:P=1:=oO;subst this;have e:bl 1=1:=by decide
    omega
   ·exact h
  rw[if_neg j];subst g;subst c;simp only[Int.toNat_natCast,b,i,Bool.and_eq_true,decide_eq_true_iff];refine⟨⟨⟨⟨by omega,by omega⟩,rfl⟩,by simp⟩,trivial⟩
theorem Bm {S A:Nat} (h:A<S):oe S A=true:=by unfold oe;simp;omega
theorem gF {C S P A B:Nat} (h:VF C S P) (a:A<S) (hb:B<S):rj C S P A B=true:=by unfold rj;rw[j5 h,Bm a,Bm hb];rfl
theorem CU {a b v e:Int} (c:a=v) (d:b=e):Ending.returned (.tuple #[.int .i64 a,.int .i64 b])= .returned (rX (v,e)):=by rw[c,d]
def AH (c s p a b:Int):Int×Int:=if rj c s p a b then((aM s.toNat p.toNat a.toNat b.toNat:Nat),0)else(0,1)
def mulR (c s p a b:Int):Int×Int:=if rj c s p a b then((au s.toNat p.toNat a.toNat b.toNat:Nat),0)else(0,1)
noncomputable def ue (c s p:Int):Int×Int:=if aW c s p then((aw s.toNat p.toNat:Nat),0)else(0,1)
theorem LA (c s p a b:Int) (w:World) (g:p<=9223372036854775807) (h:rj c s p a b=false):
 Calls Tryz.prog 117 #[aN c s p,.int .i64 a,.int .i64 b] w λe w'=>e= .returned (rX (0,1))/\Below w.heap.size w w':=by
 have i:Hid ((aW c s p&&gB s [a,b])=false):=(sk c s p a b).trans h;clear h;go_enter Tryz.func117,Tryz.ntmps117;go_wp2_with fail
 refine(ow c s p a b _ _ g oS (by go_simp) (by go_simp)).mono ?_;rintro e k ⟨rfl,f⟩;rw[i.out];have d:=cP.step (cP.alloc (cP.start w c s p 89) (.cells #[.int .i64 a,.int .i64 b] 3)) f;obtain⟨-,l,m,n,o⟩:=id d;have j:=Lib.hid d;clear d f;go_wp2_with fail
 go_ret2
 exact⟨rfl,j.out.below⟩
theorem LM (c s p a b:Int) (w:World) (g:p<=9223372036854775807) (h:rj c s p a b=false):
 Calls Tryz.prog 159 #[aN c s p,.int .i64 a,.int .i64 b] w λe w'=>e= .returned (rX (0,1))/\Below w.heap.size w w':=by
 have i:Hid ((aW c s p&&gB s [a,b])=false):=(sk c s p a b).trans h;clear h;go_enter Tryz.func159,Tryz.ntmps159;go_wp2_with fail
 refine(ow c s p a b _ _ g oS (by go_simp) (by go_simp)).mono ?_;rintro e k ⟨rfl,f⟩;rw[i.out];have d:=cP.step (cP.alloc (cP.start w c s p 89) (.cells #[.int .i64 a,.int .i64 b] 3)) f;obtain⟨-,l,m,n,o⟩:=id d;have j:=Lib.hid d;clear d f;go_wp2_with fail
 go_ret2
 exact⟨rfl,j.out.below⟩
theorem AZ (c s p:Int) (w:World) (d:p<=9223372036854775807) (h:aW c s p=false):
 Calls Tryz.prog 158 #[aN c s p] w λe w'=>e= .returned (rX (0,1))/\Below w.heap.size w w':=by
 have f:=Lib.hid h;clear h;go_enter Tryz.func158,Tryz.ntmps158;go_wp2_with fail
 refine(zo c s p _ d).mono ?_;rintro e i ⟨rfl,b⟩;rw[f.out];have a:=cP.step (cP.start w c s p 89) b;obtain⟨-,j,k,l,m⟩:=id a;have g:=Lib.hid a;clear a b;go_wp2_with fail
 go_ret2
 exact⟨rfl,g.out.below⟩
theorem VF.rl {C S P:Nat} (h:VF C S P):(P:Int)<=9223372036854775807:=by
 rcases h with⟨a,_⟩|⟨d,_,a,b,_⟩
 ·omega
 ·have:=(aS P 13).1 oO;omega
theorem LN (C S P A B:Nat) (w:World) (a:VF C S P) (f:A<S) (hb:B<S) (b:P=0):
 Calls Tryz.prog 117 #[aN C S P,.int .i64 A,.int .i64 B] w λe w'=>e= .returned (rX ((aM S P A B:Nat),0))/\Below w.heap.size w w':=by
 have l:=a.le;have n:=a.aG;have g:(P:Int)<=9223372036854775807:=a.rl;have i:Hid ((aW C S P&&gB S [(A:Int),(B:Int)])=true):=(sk _ _ _ _ _).trans (gF a f hb);have o:(((P:Nat):Int)!=0)=false:=by rw[b];rfl
 have j:Hid (((A:Int)-B+S)%S=((aM S P A B:Nat):Int)):=by
  show _=_;unfold aM;rw[if_pos b,Int.natCast_emod];exact congrArg (λx=>x%(S:Int)) oO
 clear b a;go_enter Tryz.func117,Tryz.ntmps117;go_wp2_with fail
 refine(ow C S P A B _ _ g oS (by go_simp) (by go_simp)).mono ?_;rintro e m ⟨rfl,d⟩;rw[i.out];have c:=cP.step (cP.alloc (cP.start w C S P 89) (.cells #[.int .i64 A,.int .i64 B] 3)) d;obtain⟨-,p,q,r,s⟩:=id c;have k:=Lib.hid c;clear c d;go_wp2_with fail
 go_ret2
 exact⟨CU j.out rfl,k.out.below⟩
theorem LD (C S P A B:Nat) (w:World) (a:VF C S P) (f:A<S) (hb:B<S) (c:P≠0):
 Calls Tryz.prog 117 #[aN C S P,.int .i64 A,.int .i64 B] w λe w'=>e= .returned (rX ((aM S P A B:Nat),0))/\Below w.heap.size w w':=by
 have l:=a.le;have n:=a.aG;have g:(P:Int)<=9223372036854775807:=a.rl;have i:Hid ((aW C S P&&gB S [(A:Int),(B:Int)])=true):=(sk _ _ _ _ _).trans (gF a f hb);have o:(((P:Nat):Int)!=0)=true:=by rw[bne_iff_ne];omega
 have j:Hid (bits BinOp.xor IntKind.i64 (A:Int) (B:Int)=((aM S P A B:Nat):Int)):=by
  show _=_;unfold aM;rw[if_neg c];exact fU A B oO oO
 clear c a;go_enter Tryz.func117,Tryz.ntmps117;go_wp2_with fail
 refine(ow C S P A B _ _ g oS (by go_simp) (by go_simp)).mono ?_;rintro e m ⟨rfl,d⟩;rw[i.out];have b:=cP.step (cP.alloc (cP.start w C S P 89) (.cells #[.int .i64 A,.int .i64 B] 3)) d;obtain⟨-,p,q,r,s⟩:=id b;have k:=Lib.hid b;clear b d;go_wp2_with fail
 go_ret2
 exact⟨CU j.out rfl,k.out.below⟩
theorem K1 (C S P A B:Nat) (w:World) (a:VF C S P) (g:A<S) (hb:B<S):
 Calls Tryz.prog 159 #[aN C S P,.int .i64 A,.int .i64 B] w λe w'=>e= .returned (rX ((au S P A B:Nat),0))/\Below w.heap.size w w':=by
 have n:=a.le;have q:=a.aG;have i:(P:Int)<=9223372036854775807:=a.rl;have j:Hid ((aW C S P&&gB S [(A:Int),(B:Int)])=true):=(sk _ _ _ _ _).trans (gF a g hb);have k:=Lib.hid a;clear a;go_enter Tryz.func159,Tryz.ntmps159;go_wp2_with fail
 refine(ow C S P A B _ _ i oS (by go_simp) (by go_simp)).mono ?_;rintro e o ⟨rfl,d⟩;rw[j.out];have b:=cP.step (cP.alloc (cP.start w C S P 89) (.cells #[.int .i64 A,.int .i64 B] 3)) d;obtain⟨-,r,s,t,u⟩:=id b;have l:=Lib.hid b;clear b d;go_wp2_with fail
 refine(tm C S P _ _ _ k.out oO oO oO oO).mono ?_;rintro e p ⟨rfl,f⟩;have c:=cP.step l.out f;obtain⟨-,v,x,y,z⟩:=id c;have m:=Lib.hid c;clear c f;go_wp2_with fail
 go_ret2
 exact⟨rfl,m.out.below⟩
theorem yJ (C S P:Nat) (w:World) (a:VF C S P):
 Calls Tryz.prog 158 #[aN C S P] w λe w'=>e= .returned (rX ((aw S P:Nat),0))/\Below w.heap.size w w':=by
 have m:=a.le;have p:=a.aG;have g:(P:Int)<=9223372036854775807:=a.rl;have i:Hid (aW C S P=true):=j5 a;have j:=Lib.hid a;clear a;go_enter Tryz.func158,Tryz.ntmps158;go_wp2_with fail
 refine(zo C S P _ g).mono ?_;rintro e n ⟨rfl,d⟩;rw[i.out];have b:=cP.step (cP.start w C S P 89) d;obtain⟨-,q,r,s,t⟩:=id b;have k:=Lib.hid b;clear b d;go_wp2_with fail
 refine(yD C S P _ j.out).mono ?_;rintro e o ⟨rfl,f⟩;have c:=cP.step k.out f;obtain⟨-,u,v,x,y⟩:=id c;have l:=Lib.hid c;clear c f;go_wp2_with fail
 go_ret2
 exact⟨rfl,l.out.below⟩
theorem KH (c s p a b:Int) (w:World) (hs:s<=9223372036854775807) (i:p<=9223372036854775807):
 Calls Tryz.prog 117 #[aN c s p,.int .i64 a,.int .i64 b] w λe w'=>e= .returned (rX (AH c s p a b))/\Below w.heap.size w w':=by
 cases h:rj c s p a b
 ·unfold AH;rw[h];exact LA c s p a b w i h
 ·unfold AH;rw[h];obtain⟨C,S,P,A,B,rfl,rfl,rfl,rfl,rfl,d,hb,f⟩:=Dr h;simp only[Int.toNat_natCast,if_true];by_cases g:P=0
  ·exact LN C S P A B w f d hb g
  ·exact LD C S P A B w f d hb g
theorem ir (c s p a b:Int) (w:World) (hs:s<=9223372036854775807) (d:p<=9223372036854775807):
 Calls Tryz.prog 159 #[aN c s p,.int .i64 a,.int .i64 b] w λe w'=>e= .returned (rX (mulR c s p a b))/\Below w.heap.size w w':=by
 cases h:rj c s p a b
 ·unfold mulR;rw[h];exact LM c s p a b w d h
 ·unfold mulR;rw[h];obtain⟨C,S,P,A,B,rfl,rfl,rfl,rfl,rfl,f,hb,g⟩:=Dr h;simp only[Int.toNat_natCast,if_true];exact K1 C S P A B w g f hb
theorem re (c s p:Int) (w:World) (hs:s<=9223372036854775807) (a:p<=9223372036854775807):
 Calls Tryz.prog 158 #[aN c s p] w λe w'=>e= .returned (rX (ue c s p))/\Below w.heap.size w w':=by
 cases h:aW c s p
 ·unfold ue;rw[h];exact AZ c s p w a h
 ·unfold ue;rw[h];obtain⟨C,S,P,rfl,rfl,rfl,b⟩:=pF h;simp only[Int.toNat_natCast,if_true];exact yJ C S P w b
theorem LJ (c s p a:Int) (w:World):
 Calls Tryz.prog 167 #[aN c s p,.int .i64 a] w λe w'=>e= .returned (.bool (oe s a))/\Below w.heap.size w w':=by
 by_cases d:0<=a
 ·by_cases f:a<s
  ·have b:Hid (oe s a=true):=by show _=_;unfold oe;simp;omega
   go_enter Tryz.func167,Tryz.ntmps167;go_wp2;go_ret;exact⟨aK (by rw[b.out]),(Below.refl _ _).alloc (Nat.le_refl _) _⟩
  ·have b:Hid (oe s a=false):=by show _=_;unfold oe;simp;omega
   go_enter Tryz.func167,Tryz.ntmps167;go_wp2;go_ret;exact⟨aK (by rw[b.out]),(Below.refl _ _).alloc (Nat.le_refl _) _⟩
 ·have b:Hid (oe s a=false):=by show _=_;unfold oe;simp;omega
  go_enter Tryz.func167,Tryz.ntmps167;go_wp2;go_ret;exact⟨aK (by rw[b.out]),(Below.refl _ _).alloc (Nat.le_refl _) _⟩
theorem Br (C S P:Nat) (a:Int) (w:World) (b:VF C S P) (i:0<=a) (d:a<S):
 Calls Tryz.prog 173 #[aN C S P,.int .i64 a] w λe w'=>e= .returned (.int .i64 (bE S P a.toNat:Nat))/\Below w.heap.size w w':=by
 have k:=b.le;have m:=b.aG;have f:=Lib.hid b;clear b;have g:Hid (((S:Int)-2).toNat=S-2):=by show _=_;omega
 go_enter Tryz.func173,Tryz.ntmps173;go_wp2_with fail
 refine(EC C S P _ _ _ f.out i d oO oO).mono ?_;rintro e l ⟨rfl,c⟩;have j:=Lib.hid (cP.step (cP.start w C S P 89) c);clear c;go_wp2_with fail
 go_ret;exact⟨bG (by rw[g.out];rfl),j.out.below⟩
abbrev fp (c s p e:Int):Value:= .tuple #[.agg #[.int .i64 c,.int .i64 s,.int .i64 p],.int .i64 e]
def qx (d p:Int):Bool:=decide (1<=d)&&decide (d<=12)&&gj p d
theorem DD (d p:Int) (a:1<=d) (b:d<=12):aW 2 ((2^d.toNat:Nat):Int) p=gj p d:=by
 obtain⟨D,rfl⟩:=Int.eq_ofNat_of_zero_le (by omega:0<=d);rw[lU,Int.toNat_natCast,Int.toNat_natCast,vw];have e:(((D+1:Nat):Int)-1)=(D:Int):=oO;rw[e,show D+1-1=D from by omega];simp;intro _;omega
theorem zi (d p:Int) (w:World) (h:d<1\/12<d):
 Calls Tryz.prog 110 #[.int .i64 d,.int .i64 p] w λe w'=>e= .returned (fp 0 0 0 3)/\Below w.heap.size w w':=by
 rcases h with h|h
 ·go_enter Tryz.func110,Tryz.ntmps110;go_wp2;exact bodyPost_ret (v:=fp 0 0 0 3) (by simp[results,Tryz.results110,go_sem]) rfl ⟨rfl,(Below.refl _ _).alloc (Nat.le_refl _) _⟩
 ·have a:¬d<1:=oO;go_enter Tryz.func110,Tryz.ntmps110;go_wp2;exact bodyPost_ret (v:=fp 0 0 0 3) (by simp[results,Tryz.results110,go_sem]) rfl ⟨rfl,(Below.refl _ _).alloc (Nat.le_refl _) _⟩
theorem Hi (d p s:Int) (w:World) (m:1<=d) (n:d<=12) (k:p<=9223372036854775807) (hs:wrap64 (2^d.toNat)=s) (ok:Bool) (j:aW 2 s p=ok):
 Calls Tryz.prog 110 #[.int .i64 d,.int .i64 p] w λe w'=>e= .returned (if ok then fp 2 s p 0 else fp 0 0 0 38)/\Below w.heap.size w w':=by
 have l:=Lib.hid j;clear j;go_enter Tryz.func110,Tryz.ntmps110;go_wp2_with fail
 refine(jd _ _ _ _ k).mono ?_;rintro e a ⟨rfl,c⟩;rw[l.out];obtain⟨b,f⟩:=J6 c;have c0:a.cell? ⟨w.heap.size,0,none⟩=some (.int .i64 0):=by rw[b _ _ oT];go_simp
 have c1:a.cell? ⟨w.heap.size,1,none⟩=some (.int .i64 0):=by rw[b _ _ oT];go_simp
 have g:a.cell? ⟨w.heap.size,2,none⟩=some (.int .i64 0):=by rw[b _ _ oT];go_simp
 have o:a.frozen? ⟨w.heap.size,0,none⟩=false:=by rw[f _ _ oT];go_simp
 have q:a.frozen? ⟨w.heap.size,1,none⟩=false:=by rw[f _ _ oT];go_simp
 have r:a.frozen? ⟨w.heap.size,2,none⟩=false:=by rw[f _ _ oT];go_simp
 have y:w.heap.size+1<a.heap.size:=by have:=c.size;simp at this;omega
 have t:a.cell? ⟨w.heap.size+1,0,none⟩=some (.int .i64 2):=by rw[b _ _ oS];go_simp
 have u:a.cell? ⟨w.heap.size+1,1,none⟩=some (.int .i64 s):=by rw[b _ _ oS];go_simp
 have x:a.cell? ⟨w.heap.size+1,2,none⟩=some (.int .i64 p):=by rw[b _ _ oS];go_simp
 have i:Hid (Below w.heap.size w a):=(((Below.refl _ _).alloc (Nat.le_refl _) _).alloc oS _).trans (c.mono oT);clear b f c;cases ok
 ·go_wp2;exact bodyPost_ret (v:=fp 0 0 0 38) (by simp[results,Tryz.results110,go_sem,c0,c1,g]) rfl ⟨rfl,((i.out.setCell oS _).setCell oS _).setCell oS _⟩
 ·go_wp2;exact bodyPost_ret (v:=fp 2 s p 0) (by simp[results,Tryz.results110,go_sem,c0,c1,g]) rfl ⟨rfl,((i.out.setCell oS _).setCell oS _).setCell oS _⟩
def jM (d p:Int):Value:=if qx d p then fp 2 ((2^d.toNat:Nat):Int) p 0 else if 1<=d/\d<=12 then fp 0 0 0 38 else fp 0 0 0 3
theorem yd (d:Int) (a:1<=d) (b:d<=12):wrap64 (2^d.toNat)=((2^d.toNat:Nat):Int):=IE d.toNat oO
theorem lJ (d p:Int) (w:World) (a:p<=9223372036854775807):
 Calls Tryz.prog 110 #[.int .i64 d,.int .i64 p] w λe w'=>e= .returned (jM d p)/\Below w.heap.size w w':=by
 by_cases h:1<=d/\d<=12
 ·refine(Hi d p _ w h.1 h.2 a (yd d h.1 h.2) _ rfl).mono ?_;rintro e w' ⟨rfl,hb⟩;refine⟨?_,hb⟩;unfold jM qx;rw[DD d p h.1 h.2];cases gj p d<;>simp[h.1,h.2]
 ·have:jM d p=fp 0 0 0 3:=by
   unfold jM qx;rw[if_neg oT,if_neg h]
  rw[this];exact zi d p w oO
theorem yZ (d p:Int) (w:World) (h:d<1\/12<d):
 Calls Tryz.prog 125 #[.int .i64 d,.int .i64 p] w λe w'=>e= .returned (fp 0 0 0 3)/\Below w.heap.size w w':=by
 rcases h with h|h
 ·go_enter Tryz.func125,Tryz.ntmps125;go_wp2;exact bodyPost_ret (v:=fp 0 0 0 3) (by simp[results,Tryz.results125,go_sem]) rfl ⟨rfl,(Below.refl _ _).alloc (Nat.le_refl _) _⟩
 ·have a:¬d<1:=oO;go_enter Tryz.func125,Tryz.ntmps125;go_wp2;exact bodyPost_ret (v:=fp 0 0 0 3) (by simp[results,Tryz.results125,go_sem]) rfl ⟨rfl,(Below.refl _ _).alloc (Nat.le_refl _) _⟩
theorem B9 (d p z:Int) (w:World) (a:1<=d) (b:d<=12) (c:wrap64 (2^(d+1).toNat)=z) (f:z<=p):
 Calls Tryz.prog 125 #[.int .i64 d,.int .i64 p] w λe w'=>e= .returned (fp 0 0 0 38)/\Below w.heap.size w w':=by
 go_enter Tryz.func125,Tryz.ntmps125;go_wp2;exact bodyPost_ret (v:=fp 0 0 0 38) (by simp[results,Tryz.results125,go_sem]) rfl ⟨rfl,(Below.refl _ _).alloc (Nat.le_refl _) _⟩
theorem EY (d p s z:Int) (w:World) (g:1<=d) (b:d<=12) (hs:wrap64 (2^d.toNat)=s) (i:wrap64 (2^(d+1).toNat)=z) (j:p<z) (c:p<=9223372036854775807) (ok:Bool) (a:gj p d=ok):
 Calls Tryz.prog 125 #[.int .i64 d,.int .i64 p] w λe w'=>e= .returned (if ok then fp 2 s p 0 else fp 0 0 0 38)/\Below w.heap.size w w':=by
 have f:=Lib.hid a;clear a;go_enter Tryz.func125,Tryz.ntmps125;go_wp2_with fail
 refine(BH _ _ _ c oO b).mono ?_;rintro e k ⟨rfl,rfl⟩;rw[f.out];cases ok
 ·go_wp2;exact bodyPost_ret (v:=fp 0 0 0 38) (by simp[results,Tryz.results125,go_sem]) rfl ⟨rfl,(Below.refl _ _).alloc (Nat.le_refl _) _⟩
 ·go_wp2;exact bodyPost_ret (v:=fp 2 s p 0) (by simp[results,Tryz.results125,go_sem]) rfl ⟨rfl,(Below.refl _ _).alloc (Nat.le_refl _) _⟩
theorem Cr (d p:Int) (w:World) (b:p<=9223372036854775807):
 Calls Tryz.prog 125 #[.int .i64 d,.int .i64 p] w λe w'=>e= .returned (jM d p)/\Below w.heap.size w w':=by
 by_cases h:1<=d/\d<=12
 ·have c:=IE (d+1).toNat oO;by_cases a:p<wrap64 (2^(d+1).toNat)
  ·refine(EY d p _ _ w h.1 h.2 (yd d h.1 h.2) rfl a b _ rfl).mono ?_;rintro e w' ⟨rfl,hb⟩;refine⟨?_,hb⟩;unfold jM qx;cases gj p d<;>simp[h.1,h.2]
  ·have hn:gj p d=false:=by
    unfold gj;rw[c]at a;have:¬(bl p.toNat:Int)=d+1:=by
     intro e;have:=(aS p.toNat (d+1).toNat).1 oO;omega
    rw[decide_eq_false this];simp
   have:jM d p=fp 0 0 0 38:=by
    unfold jM qx;rw[hn,if_neg oS,if_pos h]
   rw[this];exact B9 d p _ w h.1 h.2 rfl oO
 ·have:jM d p=fp 0 0 0 3:=by
   unfold jM qx;rw[if_neg oT,if_neg h]
  rw[this];exact yZ d p w oO
def RD (w:World) (A:Option Addr) (xs:List Int):Prop:=
 0<xs.length->∃a,A=some a/\a.block<w.heap.size/\∀j,j<xs.length->w.cell? (a.add j)=some (.int .i64 (xs.getD j 0))
theorem RD.below {W a:World} {A:Option Addr} {xs:List Int} (h:RD W A xs) (hb:Below W.heap.size W a):RD a A xs:=λhn=>by
 obtain⟨b,e,hl,hc⟩:=h hn;exact⟨b,e,Nat.lt_of_lt_of_le hl hb.size,λj c=>(hb.cell (by rw[aI];exact hl)).trans (hc j c)⟩
theorem RD.alloc {W:World} {A:Option Addr} {xs:List Int} (h:RD W A xs) (a:Obj):RD (W.alloc a) A xs:=h.below ((Below.refl _ _).alloc (Nat.le_refl _) a)
theorem RD.dR (W:World) (A:Option Addr):RD W A []:=λh=>absurd h oS
theorem RD.bK {W:World} {base:Nat} {e:TypeId} {n:Nat} {A:Option Addr} {c:Nat} {xs:List Int} (h:W.ownsRow base e 1 (.slice A n c) n (xs.map (Value.int .i64))):RD W A xs:=λhn=>by
 have hl:xs.length=n:=by have:=h.1;simpa using this
 obtain⟨g,cap,a,_,f⟩:=h.form oO;have b:A=some ⟨g,0,none⟩:=by injection a
 subst b;refine⟨_,rfl,f,λj d=>h.cells (g:=g) rfl j _ ?_⟩;simp[List.getD,d]
def zl (l:List Nat):List Int:=l.map (λn:Nat=>(n:Int))
theorem ak (l:List Nat):(zl l).length=l.length:=by simp[zl]
theorem bw (l:List Nat) (i:Nat):(zl l).getD i 0=((l.getD i 0:Nat):Int):=by
 unfold zl;by_cases h:i<l.length
 ·simp[List.getD,h]
 ·simp[List.getD,List.getElem?_eq_none (show l.length<=i by omega)]
def aq (w:World) (v:Value) (xs:List Int):Prop:=∃A c,v= .slice A xs.length c/\xs.length<=c/\c<=maxLen/\RD w A xs
theorem aq.below {W a:World} {v:Value} {xs:List Int} (h:aq W v xs) (hb:Below W.heap.size W a):aq a v xs:=by
 obtain⟨A,c,rfl,b,d,e⟩:=h;exact⟨A,c,rfl,b,d,e.below hb⟩
theorem aq.dR (w:World):aq w (.slice none 0 0) []:=⟨none,0,rfl,by simp,by simp,RD.dR _ _⟩
theorem aq.bK {W:World} {base:Nat} {e:TypeId} {n:Nat} {v:Value} {xs:List Int} (h:W.ownsRow base e 1 v n (xs.map (Value.int .i64))):aq W v xs:=by
 have hl:xs.length=n:=by have:=h.1;simpa using this
 rcases h.2 with⟨rfl,rfl⟩|⟨g,cap,a,rfl,_,_,b,oZ,_⟩
 ·have:xs=[]:=List.eq_nil_of_length_eq_zero hl;subst this;exact aq.dR _
 ·refine⟨_,cap,by rw[hl],by omega,oZ,RD.bK h⟩
theorem ql {s:Int} {xs:List Int} {k:Nat} (a:k<xs.length) (h:¬(0<=xs.getD k 0/\xs.getD k 0<s)):gB s xs=false:=by
 unfold gB;rw[List.all_eq_false];refine⟨xs[k],List.getElem_mem a,?_⟩;have e:xs.getD k 0=xs[k]:=by simp[List.getD,a]
 rw[e]at h;simpa[Classical.not_and_iff_not_or_not]using h
theorem xE {s:Int} {xs:List Int} (h:∀j,j<xs.length->0<=xs.getD j 0/\xs.getD j 0<s):gB s xs=true:=by
 unfold gB;rw[List.all_eq_true];intro a c;obtain⟨j,b,rfl⟩:=List.getElem_of_mem c;have:=h j b;rw[List.getD_eq_getElem?_getD,List.getElem?_eq_getElem b]at this;simpa using this
theorem BR (c s p:Int) (xs:List Int) (A:Option Addr) (q:Nat) (w:World) (v:xs.length<=9223372036854775807) (l:RD w A xs):
 Calls Tryz.prog 190 #[aN c s p,.slice A xs.length q] w λe w'=>e= .returned (.bool (gB s xs))/\Below w.heap.size w w':=by
 have r:=Lib.hid (l.alloc (.cells #[.int .i64 c,.int .i64 s,.int .i64 p] 89));clear l;generalize hn:xs.length=n at*;have a:=Lib.hid hn;clear hn;go_enter Tryz.func190,Tryz.ntmps190;go_wp2;go_loop [6,9] (λ_ i=>∃k:Nat,k<=n/\i= .int .i64 k/\Hid (∀j,j<k->0<=xs.getD j 0/\xs.getD j 0<s)) (λ_ i=>n-(intOf i).toNat)
 case atStart=>exact⟨0,Nat.zero_le _,rfl,λj t=>by omega⟩
 case round=>
  obtain⟨k,y,rfl,hid⟩:=hrel;have g:Hid (Below w.heap.size w (w.alloc (.cells #[.int .i64 c,.int .i64 s,.int .i64 p] 89))):=(Below.refl _ _).alloc (Nat.le_refl _) _;by_cases f:k<n
  ·obtain⟨z,rfl,-,o⟩:=r.out (by rw[a.out];omega);have D:=o k (by rw[a.out];exact f);clear o;generalize m:xs.getD k 0=x at*;have d:=Lib.hid m;clear m;by_cases B:x<0
   ·have b:=Lib.hid (ql (s:=s) (k:=k) (by rw[a.out];exact f) (by rw[d.out];omega));go_wp2;go_ret;exact⟨aK b.out.symm,g.out⟩
   ·by_cases C:s<=x
    ·have b:=Lib.hid (ql (s:=s) (k:=k) (by rw[a.out];exact f) (by rw[d.out];omega));go_wp2;go_ret;exact⟨aK b.out.symm,g.out⟩
    ·go_wp2;refine⟨⟨k+1,by omega,by go_num,?_⟩,by simp[intOf];omega⟩;intro j t;by_cases u:j=k
     ·subst u;rw[d.out];omega
     ·exact hid.out j oO
  ·obtain rfl:k=n:=oO;have b:=Lib.hid (xE (s:=s) (xs:=xs) (by rw[a.out];exact hid.out));go_wp2;go_ret;exact⟨aK b.out.symm,g.out⟩
abbrev fm (C S a bl:Nat):Value:= .agg #[.int .i64 C,.int .i64 S,.slice (some ⟨a,0,none⟩) (S-1) (S-1),.slice (some ⟨bl,0,none⟩) S S]
abbrev kM (C S a bl:Nat):Obj:= .cells #[.int .i64 C,.int .i64 S,.slice (some ⟨a,0,none⟩) (S-1) (S-1),.slice (some ⟨bl,0,none⟩) S S] 200
def dg (w:World) (S P a bl:Nat):Prop:=a<w.heap.size/\bl<w.heap.size/\(∀i,i<S-1->w.cell? ⟨a,i,none⟩=some (.int .i64 ((fpowN S P (aw S P) i:Nat):Int)))/\
 (∀x,x<S->x≠0->w.cell? ⟨bl,x,none⟩=some (.int .i64 ((ej S P x:Nat):Int)))
theorem dg.below {W a:World} {S P b bl:Nat} (h:dg W S P b bl) (hb:Below W.heap.size W a):dg a S P b bl:=
 ⟨Nat.lt_of_lt_of_le h.1 hb.size,Nat.lt_of_lt_of_le h.2.1 hb.size,λi c=>(hb.cell h.1).trans (h.2.2.1 i c),λx d e=>(hb.cell h.2.1).trans (h.2.2.2 x d e)⟩
theorem dg.alloc {W:World} {S P b bl:Nat} (h:dg W S P b bl) (a:Obj):dg (W.alloc a) S P b bl:=h.below ((Below.refl _ _).alloc (Nat.le_refl _) a)
theorem VF.EI {C S P:Nat} (h:VF C S P):(C=2/\P≠0)\/(C≠2/\P=0):=by
 rcases h with⟨b,c,a,_⟩|⟨d,b,_,c,_,a,_⟩
 ·right;omega
 ·left;refine⟨a,?_⟩;rintro rfl;have:bl 0=0:=by decide
  omega
theorem AK (C S P g bl x y:Nat) (w:World) (a:VF C S P) (i:x<S) (j:y<S) (k:dg w S P g bl):
 Calls Tryz.prog 194 #[fm C S g bl,.int .i64 x,.int .i64 y] w λe w'=>e= .returned (.int .i64 ((au S P x y:Nat):Int))/\Below w.heap.size w w':=by
 have o:Hid (Below w.heap.size w (w.alloc (kM C S g bl))):=(Below.refl _ _).alloc (Nat.le_refl _) _;by_cases d:x=0
 ·subst d;have n:=Lib.hid (oR a j);clear a k;go_enter Tryz.func194,Tryz.ntmps194;go_wp2;go_ret;exact⟨bG (by rw[n.out];rfl),o.out⟩
 by_cases f:y=0
 ·subst f;have n:=Lib.hid (mM a i);clear a k;go_enter Tryz.func194,Tryz.ntmps194;go_wp2;go_ret;exact⟨bG (by rw[n.out];rfl),o.out⟩
 have s:=a.le;have B:=a.aG;have t:=(ei a i d).1;have u:=(ei a j f).1;have l:=k.alloc (kM C S g bl);have c1:=l.2.2.2 x i d;have v:=l.2.2.2 y j f;have p:(ej S P x+ej S P y)%(S-1)<S-1:=Nat.mod_lt _ oO;have q:=l.2.2.1 _ p;rw[CV a i j d f]at q;generalize au S P x y=r at*;generalize ej S P x=b at*;generalize ej S P y=c at*;have e1:((b:Int)+c).tmod ((S:Int)-1)=(((b+c)%(S-1):Nat):Int):=by
  rw[show(b:Int)+c=((b+c:Nat):Int)from by omega,show(S:Int)-1=((S-1:Nat):Int)from by omega];exact(Int.ofNat_tmod _ _).symm
 generalize(b+c)%(S-1)=m at*;have e2:IntKind.i64.wrap ((b:Int)+c)=(b:Int)+c:=aE _ oO oO;have z:((x:Int)==0)=false:=by rw[beq_eq_false_iff_ne];omega
 have A:((y:Int)==0)=false:=by rw[beq_eq_false_iff_ne];omega
 clear l k a d f;go_enter Tryz.func194,Tryz.ntmps194;go_wp2;go_quiet (fail)
 go_wp2;go_ret;exact⟨rfl,bX o.out _⟩
theorem Jt (C S P g bl x y:Nat) (w:World) (c:VF C S P) (i:x<S) (j:y<S) (d:y≠0) (l:dg w S P g bl):
 Calls Tryz.prog 192 #[fm C S g bl,.int .i64 x,.int .i64 y] w λe w'=>e= .returned (.int .i64 ((au S P x (bE S P y):Nat):Int))/\Below w.heap.size w w':=by
 have n:Hid (Below w.heap.size w (w.alloc (kM C S g bl))):=(Below.refl _ _).alloc (Nat.le_refl _) _;by_cases f:x=0
 ·subst f;have o:=Lib.hid (oR c (fq c (x:=y)));clear c l j i d;go_enter Tryz.func192,Tryz.ntmps192;go_wp2;go_ret;exact⟨bG (by rw[o.out];rfl),n.out⟩
 have s:=c.le;have A:=c.aG;have t:=(ei c i f).1;have u:=(ei c j d).1;have k:=l.alloc (kM C S g bl);have c1:=k.2.2.2 x i f;have v:=k.2.2.2 y j d;have p:(ej S P x+(S-1)-ej S P y)%(S-1)<S-1:=Nat.mod_lt _ oO;have q:=k.2.2.1 _ p;rw[Dm c i j f d]at q;generalize au S P x (bE S P y)=r at*;generalize ej S P x=a at*;generalize ej S P y=b at*;have e1:((a:Int)-b+S-1).tmod ((S:Int)-1)=(((a+(S-1)-b)%(S-1):Nat):Int):=by
  rw[show(a:Int)-b+S-1=((a+(S-1)-b:Nat):Int)from by omega,show(S:Int)-1=((S-1:Nat):Int)from by omega];exact(Int.ofNat_tmod _ _).symm
 generalize(a+(S-1)-b)%(S-1)=m at*;have e2:IntKind.i64.wrap ((a:Int)-b)=(a:Int)-b:=aE _ oO oO;have e3:IntKind.i64.wrap ((a:Int)-b+S)=(a:Int)-b+S:=aE _ oO oO;have e4:IntKind.i64.wrap ((a:Int)-b+S-1)=(a:Int)-b+S-1:=aE _ oO oO;have z:((x:Int)==0)=false:=by rw[beq_eq_false_iff_ne];omega
 clear k l c f d;go_enter Tryz.func192,Tryz.ntmps192;go_wp2;go_quiet (fail)
 go_wp2;go_ret;exact⟨rfl,bX n.out _⟩
theorem Bs (C S P c bl x y:Nat) (w:World) (a:VF C S P) (i:x<S) (j:y<S):
 Calls Tryz.prog 193 #[fm C S c bl,.int .i64 x,.int .i64 y] w λe w'=>e= .returned (.int .i64 ((aM S P x y:Nat):Int))/\Below w.heap.size w w':=by
 have f:Hid (Below w.heap.size w (w.alloc (kM C S c bl))):=(Below.refl _ _).alloc (Nat.le_refl _) _;have k:=a.le;rcases a.EI with⟨rfl,d⟩|⟨g,rfl⟩
 ·have b:Hid (bits BinOp.xor IntKind.i64 (x:Int) (y:Int)=((aM S P x y:Nat):Int)):=by
   show _=_;rw[fU _ _ oO oO];unfold aM;rw[if_neg d]
  clear a d;go_enter Tryz.func193,Tryz.ntmps193;go_wp2;go_ret;exact⟨bG b.out,f.out⟩
 ·have m:=a.aG;have b:Hid (((x:Int)-y+S)%S=((aM S 0 x y:Nat):Int)):=by
   show _=_;unfold aM;rw[if_pos rfl,show(x:Int)-y+S=((x+S-y:Nat):Int)from by omega];exact(Int.natCast_emod _ _).symm
  have l:((C:Int)==2)=false:=by rw[beq_eq_false_iff_ne];omega
  clear a g;go_enter Tryz.func193,Tryz.ntmps193;go_wp2;go_ret;exact⟨bG b.out,f.out⟩
theorem Jo (ys:List Int):∀u∈ys.map (Value.int .i64),u.oneCell'=true:=by
 intro u a;obtain⟨y,_,rfl⟩:=List.mem_map.1 a;rfl
section
variable {P : Program} (w : World)
theorem vo (base:Nat) (t d e:TypeId) (i:TypeInfo) (a:P.underlying t=some (.slice e)) (b:P.info? e=some i)
 (v:Value) (n:Nat) (xs:List Value) (j:w.ownsRow base e 1 v n xs) (c:Nat):(Builtin.append_ #[t,t] d #[v,.slice none 0 c]).run P w= .ok v w:=by
 rcases j.2 with⟨rfl,rfl⟩|⟨g,cap,k,rfl,_,_,f,_⟩
 ·simp[Builtin.append_,run_underlying a,sizeOf,typeInfo,b,Builtin.lenOf,Builtin.firstCells]
 ·simp[Builtin.append_,run_underlying a,sizeOf,typeInfo,b,Builtin.lenOf,Builtin.firstCells,f,storeCells]
theorem pz (base:Nat) (t b e:TypeId) (i:TypeInfo) (z:Value) (g:P.underlying t=some (.slice e)) (k:P.info? e=some i) (p:i.zero=some z)
 (J:i.size=1) (E:i.bytes=8) (F:z.cells.size=1)
 (v:Value) (n:Nat) (xs:List Int) (f:w.ownsRow base e 1 v n (xs.map (Value.int .i64)))
 (A:Option Addr) (m c:Nat) (ys:List Int) (q:m=ys.length) (r:RD w A ys) (s:A=none->m=0)
 (G:(n+m)* 8<=140737488355328) (K:base<=w.heap.size):
 ∃a w',(Builtin.append_ #[t,t] b #[v,.slice A m c]).run P w= .ok a w'/\w'.ownsRow base e 1 a (n+m) ((xs++ys).map (Value.int .i64))/\w.grownBy w' v.ownBlock/\
  (a.ownBlock=v.ownBlock\/a.ownBlock=some w.heap.size):=by
 subst q;rcases A with _|l
 ·have x:=s rfl;have y:ys=[]:=List.eq_nil_of_length_eq_zero x;subst y;exact⟨v,w,vo w base t b e i g k v n _ f c,by simpa using f,World.grownBy.refl w _,.inl rfl⟩
 ·have L:∀j u,(ys.map (Value.int .i64))[j]?=some u->w.cell? (l.add j)=some u:=by
   intro j u d;have o:j<ys.length:=by
    rcases Nat.lt_or_ge j ys.length with h|h
    ·exact h
    ·rw[List.getElem?_eq_none (by simpa using h)]at d;cases d
   obtain⟨M,h,_,hc⟩:=r oO;injection h with h;subst h;rw[hc j o];simpa[List.getD,o]using d
  obtain⟨a,w',H,B,C,_,D⟩:=run_append_own_at (P:=P) w base t b e i z 1 8 g k p J E F oO v n _ f l ys.length c (ys.map (Value.int .i64)) oS L (Jo ys)
   (by simp only[maxLen];omega) G K
  exact⟨a,w',H,by rw[List.map_append];exact B,C,D⟩
omit w in
theorem da {w:World} {ops:Array Oper} {rest:List Oper} {o:Oper} {a:Act} {Q:Exit->Act->World->Prop} (hgd:o.guard=none) (s x:Operand) (t:TypeId)
 (ho:o.op= .call {callee:= .builtin .append,args:=#[s,x],argTypes:=#[t,t]})
 (base:Nat) (e:TypeId) (i:TypeInfo) (z:Value) (ht:P.underlying t=some (.slice e)) (hi:P.info? e=some i) (hz:i.zero=some z)
 (hsize:i.size=1) (hby:i.bytes=8) (hzs:z.cells.size=1)
 (v:Value) (n:Nat) (xs:List Int) (hs:a.eval s=v) (hown:w.ownsRow base e 1 v n (xs.map (Value.int .i64)))
 (A:Option Addr) (m c:Nat) (ys:List Int) (hx:a.eval x= .slice A m c) (hm:m=ys.length) (hr:RD w A ys)
 (h63:(n+m)* 8<=140737488355328) (hbase:base<=w.heap.size)
 (h:∀v' w',w'.ownsRow base e 1 v' (n+m) ((xs++ys).map (Value.int .i64))->w.grownBy w' v.ownBlock->(v'.ownBlock=v.ownBlock\/v'.ownBlock=some w.heap.size)->wpList P ops Q rest (a.put o.dst v') w'):
 wpList P ops Q (o::rest) a w:=by
 refine wpList_plain hgd λK hK=>?_;have hA:A=none->m=0:=by
  intro h0;rcases Nat.eq_zero_or_pos m with h1|h1
  ·exact h1
  ·obtain⟨ad,h2,_⟩:=hr oO;rw[h0]at h2;cases h2
 obtain⟨v',w',hrun,h2,h3,h4⟩:=pz (P:=P) w base t o.type e i z ht hi hz hsize hby hzs v n xs hown A m c ys hm hr hA h63 hbase;unfold Oper.wp execOp;simp only[ho,resolve,invoke,builtin,Sem.run_bind,Sem.run_pure,Result.andThen_ok,List.map_toArray,List.map_cons,List.map_nil,hs,hx,hrun];exact hK _ _ (h v' w' h2 h3 h4)
end
def tlI (l:List Int):Nat->Nat
 |0=>0
 |n+1=>if l.getD n 0=0 then tlI l n else n+1
def sW (l:List Int):List Int:=l.take (tlI l l.length)
theorem Ll (l:List Nat) (n:Nat):tlI (zl l) n=tl l n:=by
 induction n with
 |zero=>rfl
 |succ n a=>unfold tlI tl;rw[bw,a];simp
theorem Jp (l:List Nat):sW (zl l)=zl (dJ l):=by
 unfold sW dJ;rw[ak,Ll];unfold zl;rw[List.map_take]
theorem RD.take {w:World} {A:Option Addr} {xs:List Int} (h:RD w A xs) (k:Nat):RD w A (xs.take k):=λhn=>by
 rw[List.length_take]at hn;obtain⟨a,e,hl,hc⟩:=h oO;refine⟨a,e,hl,λj b=>?_⟩;rw[List.length_take]at b;rw[hc j oO];simp[List.getD,show j<k by omega]
theorem Ix (xs:List Int) (A:Option Addr) (y:Nat) (w:World) (H:xs.length* 8<=140737488355328) (L:xs.length<=y) (z:RD w A xs):
 Calls Tryz.prog 116 #[.slice A xs.length y] w λe w'=>∃v,e= .returned v/\aq w' v (sW xs)/\Below w.heap.size w w':=by
 obtain⟨o,p,r,s,t⟩:=info_parts bZ;have c:=Lib.hid z;clear z;generalize hn:xs.length=n at*;have d:=Lib.hid hn;clear hn;go_enter Tryz.func116,Tryz.ntmps116;go_wp2;go_loop [3] (λi=>∃k:Nat,k<=n/\i= .int .i64 k/\Hid (tlI xs n=tlI xs k)) (λi=>(intOf i).toNat)
 case atStart=>exact⟨n,Nat.le_refl _,rfl,rfl⟩
 case round=>
  obtain⟨k,J,rfl,hid⟩:=hrel;have u:Hid (∀(m:Nat) (q:Value) (w':World),m=tlI xs n->w'.ownsRow w.heap.size 3 1 q (0+m) (([]++xs.take m).map (Value.int .i64))->w.grownBy w' none->aq w' q (sW xs)/\Below w.heap.size w w'):=by
   rintro m q w' rfl a hg;refine⟨?_,(Below.refl _ _).grown hg (Nat.le_refl _) (λj E=>by cases E)⟩;have e:sW xs=xs.take (tlI xs n):=by unfold sW;rw[d.out]
   rw[e];exact aq.bK (by simpa using a)
  have M:Hid (A=none->n=0):=λe=>by
   rcases Nat.eq_zero_or_pos n with h|h
   ·exact h
   ·obtain⟨g,e2,_⟩:=c.out (by rw[d.out];exact h);rw[e]at e2;cases e2
  by_cases G:k=0
  ·subst G;have b:Hid (0=tlI xs n):=hid.out.symm;rcases A with _|g
   ·go_wp2_with(at_builtin;refine da rfl _ _ _ rfl w.heap.size 3 o _ Tryz.underlying64 p r s t rfl (.slice none 0 0) 0 [] rfl (World.ownsRow_nil _ _ _ _) none 0 _ (xs.take 0) rfl oS (c.out.take _) oO (Nat.le_refl _) ?_;intro v1 f a hg B)
    go_ret;exact⟨v1,rfl,u.out 0 v1 f b.out a hg⟩
   ·go_wp2_with(at_builtin;refine da rfl _ _ _ rfl w.heap.size 3 o _ Tryz.underlying64 p r s t rfl (.slice none 0 0) 0 [] rfl (World.ownsRow_nil _ _ _ _) (some g) 0 _ (xs.take 0) rfl oS (c.out.take _) oO (Nat.le_refl _) ?_;intro v1 f a hg B)
    go_ret;exact⟨v1,rfl,u.out 0 v1 f b.out a hg⟩
  ·obtain⟨m,rfl⟩:∃m,k=m+1:=⟨k-1,by omega⟩;obtain⟨g,rfl,-,hc⟩:=c.out (by rw[d.out];omega);have N:=hc m (by rw[d.out];omega);clear hc;have C:tlI xs (m+1)=if xs.getD m 0=0 then tlI xs m else m+1:=rfl
   have D:=Lib.hid C;clear C;generalize F:xs.getD m 0=x at*;clear F;by_cases l:x=0
   ·subst l;have b:Hid (tlI xs n=tlI xs m):=hid.out.trans (by rw[D.out,if_pos rfl]);go_wp2;exact⟨⟨m,by omega,by go_num,b.out⟩,by simp[intOf]⟩
   ·have b:Hid (m+1=tlI xs n):=(hid.out.trans (by rw[D.out,if_neg l])).symm;have K:(x==0)=false:=by rw[beq_eq_false_iff_ne];exact l
    clear l;go_wp2_with(at_builtin;refine da rfl _ _ _ rfl w.heap.size 3 o _ Tryz.underlying64 p r s t rfl (.slice none 0 0) 0 [] rfl (World.ownsRow_nil _ _ _ _) (some g) (m+1) _ (xs.take (m+1)) rfl (by rw[List.length_take,d.out];omega) (c.out.take _) oO (Nat.le_refl _) ?_;intro v1 f a hg B)
    go_ret;exact⟨v1,rfl,u.out _ v1 f b.out a hg⟩
end
end Go.Proofs.YtmnlkganmgcpbaaGreatDoor
