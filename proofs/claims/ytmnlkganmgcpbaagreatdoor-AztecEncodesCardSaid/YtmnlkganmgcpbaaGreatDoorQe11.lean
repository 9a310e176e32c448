import Derived.Test.YtmnlkganmgcpbaaGreatDoorQe10
import Derived.Deep.RegionHeld3
set_option maxRecDepth 100000
set_option maxHeartbeats 4000000
set_option linter.unusedVariables false
set_option linter.unusedSectionVars false
set_option linter.unusedSimpArgs false
namespace Go.Proofs.YtmnlkganmgcpbaaGreatDoor
section
open Go.RowKit
theorem Jf {W w1:World} (hb:Below W.heap.size W w1):(∀b a,b<W.heap.size->w1.cell? ⟨b,a,none⟩=W.cell? ⟨b,a,none⟩)/\(∀b a,b<W.heap.size->w1.frozen? ⟨b,a,none⟩=W.frozen? ⟨b,a,none⟩):=
 ⟨λ_ _ h=>hb.cell h,λ_ _ h=>hb.frozen h⟩
def fK (s:Int) (xs:List Int):Bool:=xs.all λa=>decide (0<=a)&&decide (a<s)
theorem Fb (c s p:Int) (xs:Value) (w:World) (f:p<=9223372036854775807) (a:aW c s p=false):
 Calls Tryz.prog 157 #[ba c s p,xs] w λe w'=>e= .returned (.bool false)/\Below w.heap.size w w':=by
 have b:=Lib.hid a;clear a;go_enter Tryz.func157,Tryz.ntmps157;go_wp2_with(go_at_call 149;refine(ij _ _ _ _ oO).mono ?_;rintro e w1 ⟨rfl,d⟩;rw[b.out])
 go_ret;exact⟨rfl,((Below.refl _ _).alloc (Nat.le_refl _) _).trans (d.mono oS)⟩
theorem Ia (c s p:Int) (w:World) (f:p<=9223372036854775807) (a:aW c s p=true):
 Calls Tryz.prog 157 #[ba c s p,.slice none 0 0] w λe w'=>e= .returned (.bool true)/\Below w.heap.size w w':=by
 have b:=Lib.hid a;clear a;go_enter Tryz.func157,Tryz.ntmps157;go_wp2_with(go_at_call 149;refine(ij _ _ _ _ oO).mono ?_;rintro e w1 ⟨rfl,d⟩;rw[b.out])
 go_loop [6,12] (λ_ i=>i= .int .i64 0) (λ_ _=>0)
 case atStart=>rfl
 case round=>
  subst hrel;go_wp2;go_ret;exact⟨rfl,((Below.refl _ _).alloc (Nat.le_refl _) _).trans (d.mono oS)⟩
theorem JL (c s p:Int) (xs:List Int) (b:Nat) (w:World) (J:p<=9223372036854775807) (v:aW c s p=true)
 (hn:xs.length<=1000) (G:b<w.heap.size) (A:∀i,i<xs.length->w.cell? ⟨b,i,none⟩=some (.int .i64 (xs.getD i 0))):
 Calls Tryz.prog 157 #[ba c s p,.slice (some ⟨b,0,none⟩) xs.length xs.length] w λe w'=>e= .returned (.bool (fK s xs))/\Below w.heap.size w w':=by
 have C:=Lib.hid v;clear v;have HC:=Lib.hid A;clear A;generalize y:xs.length=n at*;have m:=Lib.hid y;clear y;go_enter Tryz.func157,Tryz.ntmps157;go_wp2_with(go_at_call 149;refine(ij _ _ _ _ oO).mono ?_;rintro e w1 ⟨rfl,q⟩;rw[C.out])
 obtain⟨r,-⟩:=Jf q;have N:w1.cell? ⟨w.heap.size,1,none⟩=some (.int .i64 s):=by
  rw[r _ _ oS];go_simp
 have B:∀i,i<n->w1.cell? ⟨b,i,none⟩=some (.int .i64 (xs.getD i 0)):=by
  intro i D;rw[r _ _ oT,<-HC.out i D];exact World.cell?_of_block (Below.heap_alloc _ _ _ G)
 have E:=Lib.hid B;clear B HC r;have u:Hid (Below w.heap.size w w1):=((Below.refl _ _).alloc (Nat.le_refl _) _).trans (q.mono oS);clear q;go_loop [6,12] (λ_ i=>∃k:Nat,k<=n/\i= .int .i64 k/\Hid (∀j,j<k->0<=xs.getD j 0/\xs.getD j 0<s)) (λ_ i=>n-(intOf i).toNat)
 case atStart=>exact⟨0,Nat.zero_le _,rfl,λj l=>by omega⟩
 case round=>
  obtain⟨k,K,rfl,hid⟩:=hrel;by_cases t:k<n
  ·have O:=E.out k t;generalize z:xs.getD k 0=x at*;have o:=Lib.hid z;clear z;by_cases L:x<0
   ·have d:fK s xs=false:=by
     unfold fK;rw[List.all_eq_false];have g:k<xs.length:=by rw[m.out];exact t
     refine⟨xs[k],List.getElem_mem g,?_⟩;have:xs[k]=x:=by rw[<-o.out];simp[List.getElem?_eq_getElem g]
     rw[this];simp;omega
    have f:=Lib.hid d;clear d;go_wp2;go_ret;exact⟨aN f.out.symm,u.out⟩
   ·by_cases M:s<=x
    ·have d:fK s xs=false:=by
      unfold fK;rw[List.all_eq_false];have g:k<xs.length:=by rw[m.out];exact t
      refine⟨xs[k],List.getElem_mem g,?_⟩;have:xs[k]=x:=by rw[<-o.out];simp[List.getElem?_eq_getElem g]
      rw[this];simp;omega
     have f:=Lib.hid d;clear d;go_wp2;go_ret;exact⟨aN f.out.symm,u.out⟩
    ·go_wp2;refine⟨⟨k+1,by omega,by go_num,?_⟩,by simp[intOf];omega⟩;intro j l;by_cases H:j=k
     ·subst H;rw[o.out];omega
     ·exact hid.out j oO
  ·have d:fK s xs=true:=by
    unfold fK;rw[List.all_eq_true];intro a F;obtain⟨j,l,rfl⟩:=List.getElem_of_mem F;have:=hid.out j (by rw[m.out]at l;omega);rw[List.getD_eq_getElem?_getD,List.getElem?_eq_getElem l]at this;simpa using this
   have f:=Lib.hid d;clear d;obtain rfl:k=n:=oO;go_wp2;go_ret;exact⟨aN f.out.symm,u.out⟩
theorem nM (d p A B S R:Nat) (g:bl p=d+1) (i:bl A<=d) (hB:bl B<=d) (b:bl S<=d) (hid:S^^^cmod (bL A B) p=R) (a:Bool) (c:decide (B%2=1)=a)
 (A':Nat) (e:A'=cmod (2* A) p):bl A'<=d/\bl (B/2)<=d/\bl (if a then S^^^A else S)<=d/\(if a then S^^^A else S)^^^cmod (bL A' (B/2)) p=R:=by
 have f:p≠0:=by intro h;subst h;rw[dv]at g;omega
 refine⟨?_,?_,?_,?_⟩
 ·have:=jX (2* A) p f;rw[e];omega
 ·exact Nat.le_trans (pd _ _ (Nat.div_le_self B 2)) hB
 ·cases a
  ·exact b
  ·exact kh _ _ _ b i
 ·rw[<-hid,Gi A B p f,e];cases a
  ·have:¬B%2=1:=by simpa using c
   simp[this]
  ·have:B%2=1:=by simpa using c
   simp only[this,if_true];rw[ir A p oO,Nat.xor_assoc]
theorem Cn {B:Nat} (hB:B<2^62) (h:(bits BinOp.and IntKind.i64 (B:Int) 1==1)=true):decide (B%2=1)=true:=by
 rw[lI B hB]at h;rw[decide_eq_true_iff];exact Int.ofNat.inj (eq_of_beq h)
theorem EH {B:Nat} (hB:B<2^62) (h:(bits BinOp.and IntKind.i64 (B:Int) 1==1)=false):decide (B%2=1)=false:=by
 rw[lI B hB]at h;rw[decide_eq_false_iff_not];intro e;rw[e]at h;cases h
theorem Ew {d p A:Nat} {s:Nat} (hs:2^d=s) (a:bl p=d+1) (b:bl A<=d) (h:(s:Int)<=(A:Int)* 2) (c:d<=12):
 bits BinOp.xor IntKind.i64 ((A:Int)* 2) (p:Int)=((cmod (2* A) p:Nat):Int):=by
 rw[sM A p d a b,if_pos (by rw[hs];omega)];have e:A<2^12:=(aR _ _).1 oO;have f:p<2^13:=(aR _ _).1 oO;rw[show((A:Int)* 2)=((2* A:Nat):Int)from by omega];exact gJ _ _ oO oO
theorem FH {d p A:Nat} {s:Nat} (hs:2^d=s) (a:bl p=d+1) (b:bl A<=d) (h:(A:Int)* 2<(s:Int)):
 (A:Int)* 2=((cmod (2* A) p:Nat):Int):=by
 rw[sM A p d a b,if_neg (by rw[hs];omega)];omega
theorem Bz (d s p a b:Nat) (c:Int) (w:World) (t:d<=12) (hs:2^d=s) (u:bl p=d+1) (D:bl a<=d) (hb:bl b<=d) (H:((p:Int)==0)=false):
 Calls Tryz.prog 196 #[ba c s p,.int .i64 a,.int .i64 b] w λe w'=>e= .returned (.int .i64 (cmod (bL a b) p))/\Below w.heap.size w w':=by
 have J:s<=4096:=by rw[<-hs];exact Nat.pow_le_pow_right (n:=2) oO t
 have m:=Lib.hid hs;clear hs;have g:=Lib.hid u;clear u;have l:=Lib.hid t;clear t;go_enter Tryz.func196,Tryz.ntmps196;go_wp2_with fail
 go_loop [1,2,7] (λx y z=>∃A B S:Nat,x= .int .i64 A/\y= .int .i64 B/\z= .int .i64 S/\bl A<=d/\bl B<=d/\bl S<=d/\Hid (S^^^cmod (bL A B) p=cmod (bL a b) p)) (λ_ y _=>(intOf y).toNat)
 case atStart=>exact⟨a,b,0,rfl,rfl,rfl,D,hb,Nat.zero_le _,by show _=_;simp⟩
 case round=>
  obtain⟨A,B,S,rfl,rfl,rfl,i,hB,o,hid⟩:=hrel;have E:A<2^12:=(aR _ _).1 (by have:=l.out;omega);have F:B<2^12:=(aR _ _).1 (by have:=l.out;omega);have G:S<2^12:=(aR _ _).1 (by have:=l.out;omega);have K:A<=4096:=oO;have L:B<=4096:=oO;have v:bits BinOp.xor IntKind.i64 (S:Int) (A:Int)=((S^^^A:Nat):Int):=gJ _ _ oO oO;have C:=Lib.hid v;clear v;have r:Hid (B<2^62):=by show B<2^62;omega
  clear E F G;go_wp2
  ·rename_i q j k
   have f:=nM d p A B S _ g.out i hB o hid.out true (Cn r.out j) _ rfl;rw[C.out,Ew m.out g.out i k l.out];exact⟨⟨_,B/2,_,rfl,by go_num,rfl,f.1,f.2.1,f.2.2.1,f.2.2.2⟩,by simp[intOf];omega⟩
  ·rename_i q j k
   have f:=nM d p A B S _ g.out i hB o hid.out true (Cn r.out j) _ rfl;rw[C.out,FH m.out g.out i k];exact⟨⟨_,B/2,_,rfl,by go_num,rfl,f.1,f.2.1,f.2.2.1,f.2.2.2⟩,by simp[intOf];omega⟩
  ·rename_i q j k
   have f:=nM d p A B S _ g.out i hB o hid.out false (EH r.out j) _ rfl;rw[Ew m.out g.out i k l.out];exact⟨⟨_,B/2,_,rfl,by go_num,rfl,f.1,f.2.1,f.2.2.1,f.2.2.2⟩,by simp[intOf];omega⟩
  ·rename_i q j k
   have f:=nM d p A B S _ g.out i hB o hid.out false (EH r.out j) _ rfl;rw[FH m.out g.out i k];exact⟨⟨_,B/2,_,rfl,by go_num,rfl,f.1,f.2.1,f.2.2.1,f.2.2.2⟩,by simp[intOf];omega⟩
  ·rename_i q j
   obtain rfl:B=0:=oO;go_ret;refine⟨bK ?_,(Below.refl _ _).alloc (Nat.le_refl _) _⟩;have:=hid.out;have M:=g.out;rw[eU,ir 0 p (by rw[dv];omega),Nat.xor_zero]at this;rw[<-this]
theorem xI (s a b:Nat) (c:Int) (w:World) (hs:2<s) (i:s<=4096) (d:a<s) (hb:b<s):
 Calls Tryz.prog 196 #[ba c s 0,.int .i64 a,.int .i64 b] w λe w'=>e= .returned (.int .i64 (a* b%s:Nat))/\Below w.heap.size w w':=by
 have j:a* b<=4096* 4096:=Nat.mul_le_mul oO oO;have f:(0:Int)<=(a:Int)* b:=by
  have:(0:Int)<=((a* b:Nat):Int):=oO;simpa using this
 have g:(a:Int)* b<=16777216:=by
  have:((a* b:Nat):Int)<=16777216:=oO;simpa using this
 go_enter Tryz.func196,Tryz.ntmps196;go_wp2;go_ret;exact⟨bK oS,(Below.refl _ _).alloc (Nat.le_refl _) _⟩
theorem xQ {S:Nat} (a d:Nat) (hs:S=2^d) (b:a<S):bl a<=d:=(aR _ _).2 (by rw[<-hs];exact b)
theorem sG (C S P:Nat) (a b:Int) (w:World) (i:VF C S P) (k:0<=a) (n:a<S) (l:0<=b) (hb:b<S):
 Calls Tryz.prog 196 #[ba C S P,.int .i64 a,.int .i64 b] w λe w'=>e= .returned (.int .i64 (aM S P a.toNat b.toNat:Nat))/\Below w.heap.size w w':=by
 obtain⟨A,rfl⟩:=Int.eq_ofNat_of_zero_le k;obtain⟨B,rfl⟩:=Int.eq_ofNat_of_zero_le l;rw[Int.toNat_natCast,Int.toNat_natCast];unfold aM;rcases i with⟨j,hc,f,c,-⟩|⟨d,o,f,g,c,-,-⟩
 ·subst j;rw[if_pos rfl];exact xI S A B C w f c oO oO
 ·have m:P≠0:=by intro h;subst h;rw[dv]at g;omega
  rw[if_neg m];exact Bz d S P A B C w f c.symm g (xQ A d c oO) (xQ B d c oO) (beq_false_of_ne oO)
theorem C8 (A X k:Nat):bL (A* 2^k) X=(if X%2=1 then A* 2^k else 0)^^^bL (A* 2^(k+1)) (X/2):=by
 rw[dR,<-ny,show 2* (A* 2^k)=A* 2^(k+1)from by rw[Nat.pow_succ];ac_rfl]
theorem tW (A B Q k R:Nat) (g:bl A<=12) (hB:bl B<=12) (b:bl Q<=24) (e:0<B/2^k) (hid:Q^^^bL (A* 2^k) (B/2^k)=R) (a:Bool) (c:decide (B/2^k%2=1)=a):
 k<12/\bl (if a then Q^^^A* 2^k else Q)<=24/\(if a then Q^^^A* 2^k else Q)^^^bL (A* 2^(k+1)) (B/2^(k+1))=R:=by
 have f:k<12:=by
  rcases Nat.lt_or_ge k 12 with h|h
  ·exact h
  ·exfalso;have i:=(aR B 12).1 hB;have j:2^12<=2^k:=Nat.pow_le_pow_right oO h;rw[Nat.div_eq_of_lt oO]at e;omega
 refine⟨f,?_,?_⟩
 ·cases a
  ·exact b
  ·refine kh _ _ _ b ?_;by_cases d:A=0
   ·subst d;rw[Nat.zero_mul,dv];omega
   ·rw[pK A k d];omega
 ·rw[<-hid,C8 A (B/2^k) k,Nat.div_div_eq_div_mul,<-Nat.pow_succ];cases a
  ·have:¬B/2^k%2=1:=by simpa using c
   simp[this]
  ·have:B/2^k%2=1:=by simpa using c
   simp only[this,if_true];rw[Nat.xor_assoc]
theorem Iy {B k:Nat} (hB:B<2^40) (h:(bits BinOp.and IntKind.i64 ((B:Int)/2^k) 1==1)=true):decide (B/2^k%2=1)=true:=by
 rw[rK B k hB]at h;rw[decide_eq_true_iff];exact Int.ofNat.inj (eq_of_beq h)
theorem Jl {B k:Nat} (hB:B<2^40) (h:(bits BinOp.and IntKind.i64 ((B:Int)/2^k) 1==1)=false):decide (B/2^k%2=1)=false:=by
 rw[rK B k hB]at h;rw[decide_eq_false_iff_not];intro e;rw[e]at h;cases h
theorem sF {b k:Nat} (h:(0:Int)<(b:Int)/2^k):0<b/2^k:=by
 rw[show((b:Int)/2^k)=((b/2^k:Nat):Int)from by simp]at h;generalize b/2^k=N at*;omega
theorem yT {b k:Nat} (h:(b:Int)/2^k<=0):b/2^k=0:=by
 rw[show((b:Int)/2^k)=((b/2^k:Nat):Int)from by simp]at h;generalize b/2^k=N at*;omega
theorem F2 (a Q k:Nat) (e:bl a<=12) (f:k<=12) (c:bl Q<=24):bits BinOp.xor IntKind.i64 (Q:Int) (wrap64 ((a:Int)* 2^k))=((Q^^^a* 2^k:Nat):Int):=by
 have d:bl (a* 2^k)<=24:=by
  by_cases b:a=0
  ·subst b;rw[Nat.zero_mul,dv];omega
  ·rw[pK a k b];omega
 have g:=(aR _ _).1 d;have i:=(aR _ _).1 c;rw[show((a:Int)* 2^k)=((a* 2^k:Nat):Int)from by simp];generalize a* 2^k=N at*;rw[IntWalk.wrap64_in _ oO,gJ _ _ oO oO]
theorem Gb (s p a b:Nat) (w:World) (t:bl p<=13) (u:0<p) (f:bl a<=12) (hb:bl b<=12):
 Calls Tryz.prog 148 #[ba 2 s p,.int .i64 a,.int .i64 b] w λe w'=>e= .returned (.int .i64 (cmod (bL a b) p))/\Below w.heap.size w w':=by
 have v:a<=4096:=by have:=(aR _ _).1 f;omega
 have z:b<=4096:=by have:=(aR _ _).1 hb;omega
 go_enter Tryz.func148,Tryz.ntmps148;go_wp2_with fail
 go_loop [7,8] (λx y=>∃Q k:Nat,x= .int .i64 Q/\y= .int .i64 k/\k<=12/\bl Q<=24/\Hid (Q^^^bL (a* 2^k) (b/2^k)=bL a b)) (λ_ y=>20-(intOf y).toNat)
 case atStart=>exact⟨0,0,rfl,rfl,by omega,Nat.zero_le _,by show _=_;simp⟩
 case round=>
  obtain⟨Q,k,rfl,rfl,q,g,hid⟩:=hrel;have n:=Lib.hid hb;clear hb;have i:=Lib.hid f;clear f;go_wp2_with fail
  ·rename_i c j
   have m:b<2^40:=oO;have d:=tW a b Q k _ i.out n.out g (sF c) hid.out true (Iy m j);rw[F2 a Q k i.out q g];exact⟨⟨_,k+1,rfl,by go_num,by omega,d.2.1,d.2.2⟩,by simp[intOf];omega⟩
  ·rename_i c j
   have m:b<2^40:=oO;have d:=tW a b Q k _ i.out n.out g (sF c) hid.out false (Jl m j);exact⟨⟨_,k+1,rfl,by go_num,by omega,d.2.1,d.2.2⟩,by simp[intOf];omega⟩
  ·have c:(b:Int)/2^k<=0:=by assumption
   have o:=yT c;have l:=hid.out;rw[o,eU,Nat.xor_zero]at l;have r:=Lib.hid l;clear l;clear o;refine(ry _ _ _ oO (by rw[Int.toNat_natCast];omega) oO (by rw[Int.toNat_natCast];omega)).mono ?_;rintro e w' ⟨rfl,rfl⟩;go_wp2;go_ret;exact⟨bK (by rw[r.out]),(Below.refl _ _).alloc (Nat.le_refl _) _⟩
theorem AW (s a b:Nat) (c:Int) (w:World) (hc:(c==2)=false) (hs:2<s) (i:s<=4096) (d:a<s) (hb:b<s):
 Calls Tryz.prog 148 #[ba c s 0,.int .i64 a,.int .i64 b] w λe w'=>e= .returned (.int .i64 (a* b%s:Nat))/\Below w.heap.size w w':=by
 have j:a* b<=4096* 4096:=Nat.mul_le_mul oO oO;have f:(0:Int)<=(a:Int)* b:=by
  have:(0:Int)<=((a* b:Nat):Int):=oO;simpa using this
 have g:(a:Int)* b<=16777216:=by
  have:((a* b:Nat):Int)<=16777216:=oO;simpa using this
 go_enter Tryz.func148,Tryz.ntmps148;go_wp2;go_ret;exact⟨bK oS,(Below.refl _ _).alloc (Nat.le_refl _) _⟩
theorem lY (C S P:Nat) (a b:Int) (w:World) (g:VF C S P) (k:0<=a) (n:a<S) (l:0<=b) (hb:b<S):
 Calls Tryz.prog 148 #[ba C S P,.int .i64 a,.int .i64 b] w λe w'=>e= .returned (.int .i64 (aM S P a.toNat b.toNat:Nat))/\Below w.heap.size w w':=by
 obtain⟨A,rfl⟩:=Int.eq_ofNat_of_zero_le k;obtain⟨B,rfl⟩:=Int.eq_ofNat_of_zero_le l;rw[Int.toNat_natCast,Int.toNat_natCast];unfold aM;rcases g with⟨i,hc,c,f,-⟩|⟨d,o,c,j,f,hc,-⟩
 ·subst i;rw[if_pos rfl];exact AW S A B C w (beq_false_of_ne oO) c f oO oO
 ·have m:P≠0:=by intro h;subst h;rw[dv]at j;omega
  rw[if_neg m];subst hc;exact Gb S P A B w oO oO (Nat.le_trans (xQ A d f oO) c) (Nat.le_trans (xQ B d f oO) c)
def cX (w:World) (c s p:Int) (wr:World):Prop:=
 Below w.heap.size w wr/\w.heap.size<wr.heap.size/\wr.cell? ⟨w.heap.size,0,none⟩=some (.int .i64 c)/\wr.cell? ⟨w.heap.size,1,none⟩=some (.int .i64 s)/\wr.cell? ⟨w.heap.size,2,none⟩=some (.int .i64 p)
theorem cX.start (w:World) (c s p:Int) (a:Nat):cX w c s p (w.alloc (.cells #[.int .i64 c,.int .i64 s,.int .i64 p] a)):=by
 refine⟨(Below.refl _ _).alloc (Nat.le_refl _) _,by simp,?_,?_,?_⟩<;>go_simp
theorem cX.step {w wr w1:World} {c s p:Int} (h:cX w c s p wr) (hb:Below wr.heap.size wr w1):cX w c s p w1:=by
 obtain⟨b,a,d,e,f⟩:=h;exact⟨b.trans (hb.mono oO),Nat.lt_of_lt_of_le a hb.size,(hb.cell a).trans d,(hb.cell a).trans e,(hb.cell a).trans f⟩
theorem cX.drew {w wr:World} {c s p:Int} (h:cX w c s p wr):cX w c s p wr.drew:=⟨h.1.drew,h.2.1,h.2.2.1,h.2.2.2.1,h.2.2.2.2⟩
theorem cX.below {w wr:World} {c s p:Int} (h:cX w c s p wr):Below w.heap.size w wr:=h.1
theorem Da (C S P a n:Nat) (w:World) (g:VF C S P) (s:a<S) (hn:n<=1000000):
 Calls Tryz.prog 213 #[ba C S P,.int .i64 a,.int .i64 n] w λe w'=>e= .returned (.int .i64 (fpowN S P a n:Nat))/\Below w.heap.size w w':=by
 have D:=g.le;have G:=g.aT;have b:=Lib.hid g;clear g;go_enter Tryz.func213,Tryz.ntmps213;go_wp2_with fail
 go_loopw [1,2,7] (λx y z wr=>∃A N R:Nat,x= .int .i64 A/\y= .int .i64 N/\z= .int .i64 R/\A<S/\N<=1000000/\R<S/\Hid (aM S P R (fpowN S P A N)=fpowN S P a n)/\cX w C S P wr) (λ_ y _ _=>(intOf y).toNat)
 case atStart=>exact⟨a,n,1,rfl,rfl,rfl,s,hn,by omega,sX b.out _ (mS b.out _ _),cX.start w C S P _⟩
 case round=>
  obtain⟨A,N,R,rfl,rfl,rfl,o,E,i,hid,m⟩:=hrel;obtain⟨p,H,J,K,L⟩:=id m;have q:=Lib.hid m;clear m;have t:=Lib.hid p;clear p;by_cases F:0<N
  ·by_cases j:N%2=1
   ·have u:((N:Int)%2==1)=true:=by
     rw[beq_iff_eq];omega
    have k:=Lib.hid j;clear j;go_wp2_with fail
    refine(lY C S P _ _ _ b.out oO oO oO oO).mono ?_;rintro e w1 ⟨rfl,d⟩;have f:=q.out.step d;obtain⟨-,T,M,O,Q⟩:=id f;have v:=Lib.hid f;clear f d;go_wp2_with fail
    refine(lY C S P _ _ _ b.out oO oO oO oO).mono ?_;rintro e w2 ⟨rfl,r⟩;have B:=Lib.hid (v.out.step r);clear r;have c:=Lib.hid ((pow_odd b.out R A N i o k.out).trans hid.out);clear hid;go_wp2_with fail
    exact⟨⟨aM S P A A,N/2,aM S P R A,rfl,by go_num,rfl,cd b.out _ _,by omega,cd b.out _ _,c.out,B.out⟩,by simp[intOf];omega⟩
   ·have u:((N:Int)%2==1)=false:=by
     rw[beq_eq_false_iff_ne];omega
    have k:Hid (N%2=0):=by show N%2=0;omega
    clear j;go_wp2_with fail
    refine(lY C S P _ _ _ b.out oO oO oO oO).mono ?_;rintro e w1 ⟨rfl,d⟩;have f:=Lib.hid (q.out.step d);clear d;have c:=Lib.hid ((pow_even b.out R A N i o k.out).trans hid.out);clear hid;go_wp2_with fail
    exact⟨⟨aM S P A A,N/2,R,rfl,by go_num,rfl,cd b.out _ _,by omega,i,c.out,f.out⟩,by simp[intOf];omega⟩
  ·obtain rfl:N=0:=oO;have l:=hid.out;rw[show fpowN S P A 0=1 from rfl,s7 b.out R i]at l;have c:=Lib.hid l;clear l hid;go_wp2_with fail
   go_ret;exact⟨bK (by rw[c.out]),t.out⟩
theorem VF.Lm {c s p:Nat} (h:VF c s p) (a:p=0):c≠2/\2<s:=by
 rcases h with⟨_,e,f,-⟩|⟨d,_,_,b,_⟩
 ·omega
 ·subst a;rw[dv]at b;omega
theorem VF.even {c s p:Nat} (h:VF c s p) (f:p≠0):c=2/\2<=p:=by
 rcases h with⟨a,_⟩|⟨d,a,_,g,_,b,_⟩
 ·omega
 ·refine⟨b,?_⟩;rcases Nat.lt_or_ge p 2 with h|h
  ·have:p=1:=oO;subst this;have e:bl 1=1:=by decide
   omega
  ·exact h
theorem Fz (C S P:Nat) (a b:Int) (w:World) (c:VF C S P) (g:0<=a) (j:a<S) (i:0<=b) (hb:b<S):
 Calls Tryz.prog 146 #[ba C S P,.int .i64 a,.int .i64 b] w λe w'=>e= .returned (.int .i64 (bW S P a.toNat b.toNat:Nat))/\Below w.heap.size w w':=by
 have k:=c.le;have l:=c.aT;by_cases d:P=0
 ·have hc:(((C:Nat):Int)==2)=false:=by rw[beq_eq_false_iff_ne];have:=(c.Lm d).1;omega
  have f:Hid ((bW S P a.toNat b.toNat:Nat)=(a+b)%(S:Int)):=by
   show _=_;unfold bW;rw[if_pos d,Int.natCast_emod,show((a.toNat+b.toNat:Nat):Int)=a+b from by omega]
  clear c d;go_enter Tryz.func146,Tryz.ntmps146;go_wp2;go_ret;exact⟨bK (by rw[f.out]),(Below.refl _ _).alloc (Nat.le_refl _) _⟩
 ·have hc:(((C:Nat):Int)==2)=true:=by rw[beq_iff_eq];have:=(c.even d).1;omega
  have f:Hid ((bW S P a.toNat b.toNat:Nat)=bits BinOp.xor IntKind.i64 a b):=by
   show _=_;unfold bW;rw[if_neg d,Cg a b g oO i oO]
  clear c d;go_enter Tryz.func146,Tryz.ntmps146;go_wp2;go_ret;exact⟨bK (by rw[f.out]),(Below.refl _ _).alloc (Nat.le_refl _) _⟩
theorem Dx (C S P:Nat) (a b:Int) (w:World) (c:VF C S P) (g:0<=a) (j:a<S) (i:0<=b) (hb:b<S):
 Calls Tryz.prog 147 #[ba C S P,.int .i64 a,.int .i64 b] w λe w'=>e= .returned (.int .i64 (bE S P a.toNat b.toNat:Nat))/\Below w.heap.size w w':=by
 have k:=c.le;have l:=c.aT;by_cases d:P=0
 ·have hc:(((C:Nat):Int)==2)=false:=by rw[beq_eq_false_iff_ne];have:=(c.Lm d).1;omega
  have f:Hid ((bE S P a.toNat b.toNat:Nat)=(a+(S:Int)-b)%(S:Int)):=by
   show _=_;unfold bE;rw[if_pos d,Int.natCast_emod,show((a.toNat+S-b.toNat:Nat):Int)=a+S-b from by omega]
  clear c d;go_enter Tryz.func147,Tryz.ntmps147;go_wp2;go_ret;exact⟨bK (by rw[f.out]),(Below.refl _ _).alloc (Nat.le_refl _) _⟩
 ·have hc:(((C:Nat):Int)==2)=true:=by rw[beq_iff_eq];have:=(c.even d).1;omega
  have f:Hid ((bE S P a.toNat b.toNat:Nat)=bits BinOp.xor IntKind.i64 a b):=by
   show _=_;unfold bE;rw[if_neg d,Cg a b g oO i oO]
  clear c d;go_enter Tryz.func147,Tryz.ntmps147;go_wp2;go_ret;exact⟨bK (by rw[f.out]),(Below.refl _ _).alloc (Nat.le_refl _) _⟩
theorem EP (C S P a k:Nat) (w:World) (b:VF C S P) (l:a<S) (c:kP S P a k) (A:k<=4096):
 Calls Tryz.prog 221 #[ba C S P,.int .i64 a] w λe w'=>e= .returned (.int .i64 k)/\Below w.heap.size w w':=by
 have u:=b.le;have B:=b.aT;have d:=Lib.hid b;clear b;have D:=c.1;have m:=Lib.hid c;clear c;go_enter Tryz.func221,Tryz.ntmps221;go_wp2_with fail
 go_loopw [5,6] (λy x wr=>∃j X:Nat,y= .int .i64 j/\x= .int .i64 X/\1<=j/\j<=k/\X<S/\Hid (X=fpowN S P a j)/\cX w C S P wr) (λy _ _=>k-(intOf y).toNat)
 case atStart=>exact⟨1,a,rfl,rfl,by omega,by omega,l,(sX d.out a l).symm,cX.start w C S P _⟩
 case round=>
  obtain⟨j,X,rfl,rfl,q,v,z,hid,g⟩:=hrel;obtain⟨n,E,F,G,H⟩:=id g;have r:=Lib.hid g;clear g;have s:=Lib.hid n;clear n;by_cases f:X=1
  ·subst f;have i:j=k:=by
    by_cases h:j<k
    ·exact absurd hid.out.symm (m.out.2.2 j q h)
    ·omega
   have o:=Lib.hid i;clear i;go_wp2_with fail
   go_ret;exact⟨bK (by rw[o.out]),s.out⟩
  ·have i:j<k:=by
    rcases Nat.lt_or_ge j k with h|h
    ·exact h
    ·exfalso;apply f;have:j=k:=oO;subst this;rw[hid.out];exact m.out.2.1
   have J:(((X:Nat):Int)!=1)=true:=by rw[bne_iff_ne];omega
   have p:Hid (aM S P X a=fpowN S P a (j+1)):=by show _=aM S P (fpowN S P a j) a;rw[<-hid.out]
   clear f hid;go_wp2_with(go_at_call 196;refine(sG C S P _ _ _ d.out oO oO oO oO).mono ?_;rintro e w1 ⟨rfl,t⟩)
   exact⟨⟨j+1,aM S P X a,by go_num,rfl,by omega,by omega,cd d.out _ _,p.out,r.out.step t⟩,by simp[intOf];omega⟩
theorem Dc (C S P a k:Nat) (w:World) (b:VF C S P) (l:a<S) (c:kP S P a k) (A:k<S):
 Calls Tryz.prog 223 #[ba C S P,.int .i64 a] w λe w'=>e= .returned (.int .i64 k)/\Below w.heap.size w w':=by
 have u:=b.le;have B:=b.aT;have d:=Lib.hid b;clear b;have D:=c.1;have m:=Lib.hid c;clear c;go_enter Tryz.func223,Tryz.ntmps223;go_wp2_with fail
 go_loopw [5,6] (λy x wr=>∃j X:Nat,y= .int .i64 j/\x= .int .i64 X/\1<=j/\j<=k/\X<S/\Hid (X=fpowN S P a j)/\cX w C S P wr) (λy _ _=>k-(intOf y).toNat)
 case atStart=>exact⟨1,a,rfl,rfl,by omega,by omega,l,(sX d.out a l).symm,cX.start w C S P _⟩
 case round=>
  obtain⟨j,X,rfl,rfl,q,v,z,hid,g⟩:=hrel;obtain⟨n,E,F,G,H⟩:=id g;have r:=Lib.hid g;clear g;have s:=Lib.hid n;clear n;by_cases f:X=1
  ·subst f;have i:j=k:=by
    by_cases h:j<k
    ·exact absurd hid.out.symm (m.out.2.2 j q h)
    ·omega
   have o:=Lib.hid i;clear i;go_wp2_with fail
   go_ret;exact⟨bK (by rw[o.out]),s.out⟩
  ·have i:j<k:=by
    rcases Nat.lt_or_ge j k with h|h
    ·exact h
    ·exfalso;apply f;have:j=k:=oO;subst this;rw[hid.out];exact m.out.2.1
   have J:(((X:Nat):Int)!=1)=true:=by rw[bne_iff_ne];omega
   have p:Hid (aM S P X a=fpowN S P a (j+1)):=by show _=aM S P (fpowN S P a j) a;rw[<-hid.out]
   clear f hid;go_wp2_with(go_at_call 148;refine(lY C S P _ _ _ d.out oO oO oO oO).mono ?_;rintro e w1 ⟨rfl,t⟩)
   exact⟨⟨j+1,aM S P X a,by go_num,rfl,by omega,by omega,cd d.out _ _,p.out,r.out.step t⟩,by simp[intOf];omega⟩
theorem vY (C S P:Nat) (a:Int) (w:World) (b:VF C S P) (d:0<a) (f:a<S):
 Calls Tryz.prog 221 #[ba C S P,.int .i64 a] w λe w'=>e= .returned (.int .i64 (mh S P a.toNat:Nat))/\Below w.heap.size w w':=by
 obtain⟨A,rfl⟩:=Int.eq_ofNat_of_zero_le (Int.le_of_lt d);have c:=nZ b (a:=A) oO oO;have:=b.le;rw[Int.toNat_natCast];exact EP C S P A _ w b oO c.1 (by have:=c.2;omega)
theorem uM (C S P:Nat) (a:Int) (w:World) (b:VF C S P) (d:0<a) (f:a<S):
 Calls Tryz.prog 223 #[ba C S P,.int .i64 a] w λe w'=>e= .returned (.int .i64 (mh S P a.toNat:Nat))/\Below w.heap.size w w':=by
 obtain⟨A,rfl⟩:=Int.eq_ofNat_of_zero_le (Int.le_of_lt d);have c:=nZ b (a:=A) oO oO;rw[Int.toNat_natCast];exact Dc C S P A _ w b oO c.1 (by have:=c.2;omega)
theorem ki {w:World} {c s p:Int} {wr:World} (h:cX w c s p wr):(wr.cell? ⟨w.heap.size,0,none⟩=some (.int .i64 c)/\wr.cell? ⟨w.heap.size,1,none⟩=some (.int .i64 s)/\wr.cell? ⟨w.heap.size,2,none⟩=some (.int .i64 p))/\cX w c s p wr:=⟨h.2.2,h⟩
theorem xf (C S P:Nat) (w:World) (b:VF C S P):
 Calls Tryz.prog 195 #[ba C S P] w λe w'=>e= .returned (.int .i64 (ay S P:Nat))/\Below w.heap.size w w':=by
 have u:=b.le;have y:=b.aT;have hg:=gv b;have z:=hg.1;have m:=hg.2.1;have c:=Lib.hid b;clear b;have k:=Lib.hid hg;clear hg;go_enter Tryz.func195,Tryz.ntmps195;go_wp2_with fail
 go_loopw [3] (λx wr=>∃X:Nat,x= .int .i64 X/\1<=X/\X<=ay S P/\cX w C S P wr) (λx _=>ay S P-(intOf x).toNat)
 case atStart=>exact⟨1,rfl,by omega,by omega,cX.start w C S P _⟩
 case round=>
  obtain⟨X,rfl,q,v,d⟩:=hrel;obtain⟨n,A,B,D,E⟩:=id d;have o:=Lib.hid d;clear d;have F:=Lib.hid n;clear n;have G:X<S:=oO;have f:=Lib.hid m;clear m;by_cases r:X<ay S P
  ·have s:(((mh S P X:Nat):Int)!=(S:Int)-1)=true:=by
    rw[bne_iff_ne];intro e;have l:=nZ c.out (a:=X) (by have:=f.out;omega) oO;have e2:mh S P X=S-1:=oO;rw[e2]at l;exact k.out.2.2.2 X q r l.1
   have g:IntKind.i64.wrap ((S:Int)-1)=(S:Int)-1:=IntWalk.i64_in _ oO;go_wp2_with fail
   go_region_held3 (λw'=>(w'.cell? ⟨w.heap.size,0,none⟩=some (.int .i64 C)/\w'.cell? ⟨w.heap.size,1,none⟩=some (.int .i64 S)/\w'.cell? ⟨w.heap.size,2,none⟩=some (.int .i64 P))/\cX w C S P w') (first|exact ki (cX.drew o.out)|exact ki (by assumption)) (first|(go_at_call 221;refine(vY C S P _ _ c.out oO (by have:=f.out;omega)).mono ?_;rintro e w1 ⟨rfl,i⟩;have t:=cX.step (And.right (by assumption)) i))
   all_goals clear g
   all_goals go_wp2
   all_goals exact⟨⟨X+1,by go_num,by omega,by omega,And.right (by assumption)⟩,by simp[intOf];omega⟩
  ·have j:X=ay S P:=oO;have s:(((mh S P X:Nat):Int)!=(S:Int)-1)=false:=by
    rw[j,vD k.out.2.2.1,bne_eq_false_iff_eq];omega
   have p:=Lib.hid j;clear j;have g:IntKind.i64.wrap ((S:Int)-1)=(S:Int)-1:=IntWalk.i64_in _ oO;go_wp2_with fail
   go_region_held3 (λw'=>(w'.cell? ⟨w.heap.size,0,none⟩=some (.int .i64 C)/\w'.cell? ⟨w.heap.size,1,none⟩=some (.int .i64 S)/\w'.cell? ⟨w.heap.size,2,none⟩=some (.int .i64 P))/\cX w C S P w') (first|exact ki (cX.drew o.out)|exact ki (by assumption)) (first|(go_at_call 221;refine(vY C S P _ _ c.out oO (by have:=f.out;omega)).mono ?_;rintro e w1 ⟨rfl,i⟩;have t:=cX.step (And.right (by assumption)) i))
   all_goals clear g
   all_goals go_wp2
   all_goals go_ret
   all_goals exact⟨bK (by rw[p.out]),cX.below (And.right (by assumption))⟩
theorem xe (C S P:Nat) (w:World) (b:VF C S P):
 Calls Tryz.prog 210 #[ba C S P] w λe w'=>e= .returned (.int .i64 (ay S P:Nat))/\Below w.heap.size w w':=by
 have u:=b.le;have y:=b.aT;have hg:=gv b;have z:=hg.1;have l:=hg.2.1;have c:=Lib.hid b;clear b;have j:=Lib.hid hg;clear hg;go_enter Tryz.func210,Tryz.ntmps210;go_wp2_with fail
 go_loopw [3] (λx wr=>∃X:Nat,x= .int .i64 X/\1<=X/\X<=ay S P/\cX w C S P wr) (λx _=>ay S P-(intOf x).toNat)
 case atStart=>exact⟨1,rfl,by omega,by omega,cX.start w C S P _⟩
 case round=>
  obtain⟨X,rfl,p,v,d⟩:=hrel;obtain⟨m,A,B,D,E⟩:=id d;have n:=Lib.hid d;clear d;have F:=Lib.hid m;clear m;have G:X<S:=oO;have q:=Lib.hid l;clear l;by_cases r:X<ay S P
  ·have s:(((mh S P X:Nat):Int)==(S:Int)-1)=false:=by
    rw[beq_eq_false_iff_ne];intro e;have k:=nZ c.out (a:=X) (by have:=q.out;omega) oO;have e2:mh S P X=S-1:=oO;rw[e2]at k;exact j.out.2.2.2 X p r k.1
   have f:IntKind.i64.wrap ((S:Int)-1)=(S:Int)-1:=IntWalk.i64_in _ oO;go_wp2_with fail
   go_region_held3 (λw'=>(w'.cell? ⟨w.heap.size,0,none⟩=some (.int .i64 C)/\w'.cell? ⟨w.heap.size,1,none⟩=some (.int .i64 S)/\w'.cell? ⟨w.heap.size,2,none⟩=some (.int .i64 P))/\cX w C S P w') (first|exact ki (cX.drew n.out)|exact ki (by assumption)) (first|(go_at_call 223;refine(uM C S P _ _ c.out oO oO).mono ?_;rintro e w1 ⟨rfl,g⟩;have t:=cX.step (And.right (by assumption)) g))
   all_goals clear f
   all_goals go_wp2
   all_goals exact⟨⟨X+1,by go_num,by omega,by omega,And.right (by assumption)⟩,by simp[intOf];omega⟩
  ·have i:X=ay S P:=oO;have s:(((mh S P X:Nat):Int)==(S:Int)-1)=true:=by
    rw[i,vD j.out.2.2.1,beq_iff_eq];omega
   have o:=Lib.hid i;clear i;have f:IntKind.i64.wrap ((S:Int)-1)=(S:Int)-1:=IntWalk.i64_in _ oO;go_wp2_with fail
   go_region_held3 (λw'=>(w'.cell? ⟨w.heap.size,0,none⟩=some (.int .i64 C)/\w'.cell? ⟨w.heap.size,1,none⟩=some (.int .i64 S)/\w'.cell? ⟨w.heap.size,2,none⟩=some (.int .i64 P))/\cX w C S P w') (first|exact ki (cX.drew n.out)|exact ki (by assumption)) (first|(go_at_call 223;refine(uM C S P _ _ c.out oO oO).mono ?_;rintro e w1 ⟨rfl,g⟩;have t:=cX.step (And.right (by assumption)) g))
   all_goals clear f
   all_goals go_wp2
   all_goals go_ret
   all_goals exact⟨bK (by rw[o.out]),cX.below (And.right (by assumption))⟩
theorem nu (c s p a b:Int) (k:Nat) (w:World) (f:p<=9223372036854775807) (j:k<w.heap.size) (l:w.cell? ⟨k,0,none⟩=some (.int .i64 a)) (m:w.cell? ⟨k,1,none⟩=some (.int .i64 b)):
 Calls Tryz.prog 157 #[ba c s p,.slice (some ⟨k,0,none⟩) 2 2] w λe w'=>e= .returned (.bool (aW c s p&&fK s [a,b]))/\Below w.heap.size w w':=by
 cases g:aW c s p
 ·exact Fb c s p _ w f g
 ·refine JL c s p [a,b] k w f g oS j ?_;intro i d
  match i,d with
  |0,_=>exact l
  |1,_=>exact m
  |n+2,d=>simp at d;omega
theorem x8 (c s p:Int) (w:World) (a:p<=9223372036854775807):
 Calls Tryz.prog 157 #[ba c s p,.slice none 0 0] w λe w'=>e= .returned (.bool (aW c s p))/\Below w.heap.size w w':=by
 cases b:aW c s p
 ·exact Fb c s p _ w a b
 ·exact Ia c s p w a b
abbrev rE (x:Int×Int):Value:= .tuple #[.int .i64 x.1,.int .i64 x.2]
theorem pk {c s p:Int} (h:aW c s p=true):∃C S P:Nat,c=C/\s=S/\p=P/\VF C S P:=by
 unfold aW at h;by_cases b:p=0
 ·rw[if_pos b]at h;simp only[Bool.and_eq_true,decide_eq_true_iff]at h;obtain⟨⟨⟨d,f⟩,e⟩,a⟩:=h;refine⟨c.toNat,s.toNat,0,by omega,by omega,by omega,.inl ⟨rfl,by omega,by omega,by omega,a⟩⟩
 ·rw[if_neg b]at h;simp only[Bool.and_eq_true,decide_eq_true_iff]at h;obtain⟨⟨⟨⟨d,f⟩,e⟩,a⟩,g⟩:=h;have hb:=nT p d;have hs:s.toNat=2^(bl p.toNat-1):=by rw[a];exact Int.toNat_natCast _
  have i:s=(s.toNat:Int):=(Int.toNat_of_nonneg (by rw[a];exact Int.natCast_nonneg _)).symm;exact⟨2,s.toNat,p.toNat,e,i,by omega,.inr ⟨bl p.toNat-1,by omega,by omega,by omega,hs,rfl,g⟩⟩
theorem cX.alloc {w wr:World} {c s p:Int} (h:cX w c s p wr) (a:Obj):cX w c s p (wr.alloc a):=by
 have:=Below.heap_alloc wr a w.heap.size h.2.1;refine⟨h.1.alloc h.1.size _,by have:=h.2.1;simp;omega,?_,?_,?_⟩
 ·exact(World.cell?_of_block this).trans h.2.2.1
 ·exact(World.cell?_of_block this).trans h.2.2.2.1
 ·exact(World.cell?_of_block this).trans h.2.2.2.2
def nf (s a:Int):Bool:=decide (0<=a)&&decide (a<s)
def Ll (c s p a:Int):Bool:=aW c s p&&nf s a
def qv (c s p a b:Int):Bool:=aW c s p&&nf s a&&nf s b
theorem rF (c s p a b:Int):(aW c s p&&fK s [a,b])=qv c s p a b:=by simp[fK,qv,nf,Bool.and_assoc]
theorem LH {c s p a:Int} (h:Ll c s p a=true):∃C S P A:Nat,c=C/\s=S/\p=P/\a=A/\A<S/\VF C S P:=by
 unfold Ll nf at h;simp only[Bool.and_eq_true,decide_eq_true_iff]at h;obtain⟨C,S,P,rfl,rfl,rfl,b⟩:=pk h.1;exact⟨C,S,P,a.toNat,rfl,rfl,rfl,by omega,by omega,b⟩
theorem CN {c s p a b:Int} (h:qv c s p a b=true):∃C S P A B:Nat,c=C/\s=S/\p=P/\a=A/\b=B/\A<S/\B<S/\VF C S P:=by
 unfold qv nf at h;simp only[Bool.and_eq_true,decide_eq_true_iff]at h;obtain⟨C,S,P,rfl,rfl,rfl,d⟩:=pk h.1.1;exact⟨C,S,P,a.toNat,b.toNat,rfl,rfl,rfl,by omega,by omega,by omega,by omega,d⟩
theorem jg {C S P:Nat} (h:VF C S P):aW C S P=true:=by
 have a:=h.aT;unfold aW;rcases h with⟨f,a,b,g,c⟩|⟨d,f,a,b,g,c,i⟩
 ·subst f;subst a;rw[if_pos (by rfl)];simp[c];omega
 ·have j:¬((P:Nat):Int)=0:=by
   intro h;have:P=0:=oO
   subst this;rw[dv]at b;omega
  have k:2<=P:=by
   rcases Nat.lt_or_ge P 2 with h|h
   ·have:P=1:=oO;subst this;have e:bl 1=1:=by decide
    omega
   ·exact h
  rw[if_neg j];subst g;subst c;simp only[Int.toNat_natCast,b,i,Bool.and_eq_true,decide_eq_true_iff];refine⟨⟨⟨⟨by omega,by omega⟩,rfl⟩,by simp⟩,trivial⟩
theorem zh {S A:Nat} (h:A<S):nf S A=true:=by unfold nf;simp;omega
theorem fJ {C S P A B:Nat} (h:VF C S P) (a:A<S) (hb:B<S):qv C S P A B=true:=by unfold qv;rw[jg h,zh a,zh hb];rfl
theorem CA {a b v e:Int} (c:a=v) (d:b=e):Ending.returned (.tuple #[.int .i64 a,.int .i64 b])= .returned (rE (v,e)):=by rw[c,d]
def xV (c s p a b:Int):Int×Int:=if qv c s p a b then((bE s.toNat p.toNat a.toNat b.toNat:Nat),0)else(0,1)
def mulR (c s p a b:Int):Int×Int:=if qv c s p a b then((aM s.toNat p.toNat a.toNat b.toNat:Nat),0)else(0,1)
noncomputable def s9 (c s p:Int):Int×Int:=if aW c s p then((ay s.toNat p.toNat:Nat),0)else(0,1)
theorem KG (c s p a b:Int) (w:World) (g:p<=9223372036854775807) (h:qv c s p a b=false):
 Calls Tryz.prog 117 #[ba c s p,.int .i64 a,.int .i64 b] w λe w'=>e= .returned (rE (0,1))/\Below w.heap.size w w':=by
 have i:Hid ((aW c s p&&fK s [a,b])=false):=(rF c s p a b).trans h;clear h;go_enter Tryz.func117,Tryz.ntmps117;go_wp2_with fail
 refine(nu c s p a b _ _ g oS (by go_simp) (by go_simp)).mono ?_;rintro e w1 ⟨rfl,f⟩;rw[i.out];have d:=cX.step (cX.alloc (cX.start w c s p 89) (.cells #[.int .i64 a,.int .i64 b] 3)) f;obtain⟨-,k,l,m,n⟩:=id d;have j:=Lib.hid d;clear d f;go_wp2_with fail
 go_ret2
 exact⟨rfl,j.out.below⟩
theorem KA (c s p a b:Int) (w:World) (g:p<=9223372036854775807) (h:qv c s p a b=false):
 Calls Tryz.prog 159 #[ba c s p,.int .i64 a,.int .i64 b] w λe w'=>e= .returned (rE (0,1))/\Below w.heap.size w w':=by
 have i:Hid ((aW c s p&&fK s [a,b])=false):=(rF c s p a b).trans h;clear h;go_enter Tryz.func159,Tryz.ntmps159;go_wp2_with fail
 refine(nu c s p a b _ _ g oS (by go_simp) (by go_simp)).mono ?_;rintro e w1 ⟨rfl,f⟩;rw[i.out];have d:=cX.step (cX.alloc (cX.start w c s p 89) (.cells #[.int .i64 a,.int .i64 b] 3)) f;obtain⟨-,k,l,m,n⟩:=id d;have j:=Lib.hid d;clear d f;go_wp2_with fail
 go_ret2
 exact⟨rfl,j.out.below⟩
theorem yb (c s p:Int) (w:World) (d:p<=9223372036854775807) (h:aW c s p=false):
 Calls Tryz.prog 158 #[ba c s p] w λe w'=>e= .returned (rE (0,1))/\Below w.heap.size w w':=by
 have f:=Lib.hid h;clear h;go_enter Tryz.func158,Tryz.ntmps158;go_wp2_with fail
 refine(x8 c s p _ d).mono ?_;rintro e w1 ⟨rfl,b⟩;rw[f.out];have a:=cX.step (cX.start w c s p 89) b;obtain⟨-,i,j,k,l⟩:=id a;have g:=Lib.hid a;clear a b;go_wp2_with fail
 go_ret2
 exact⟨rfl,g.out.below⟩
theorem VF.qz {C S P:Nat} (h:VF C S P):(P:Int)<=9223372036854775807:=by
 rcases h with⟨a,_⟩|⟨d,_,a,b,_⟩
 ·omega
 ·have:=(aR P 13).1 oO;omega
theorem KB (C S P A B:Nat) (w:World) (a:VF C S P) (f:A<S) (hb:B<S) (b:P=0):
 Calls Tryz.prog 117 #[ba C S P,.int .i64 A,.int .i64 B] w λe w'=>e= .returned (rE ((bE S P A B:Nat),0))/\Below w.heap.size w w':=by
 have l:=a.le;have m:=a.aT;have g:(P:Int)<=9223372036854775807:=a.qz;have i:Hid ((aW C S P&&fK S [(A:Int),(B:Int)])=true):=(rF _ _ _ _ _).trans (fJ a f hb);have n:(((P:Nat):Int)!=0)=false:=by rw[b];rfl
 have j:Hid (((A:Int)-B+S)%S=((bE S P A B:Nat):Int)):=by
  show _=_;unfold bE;rw[if_pos b,Int.natCast_emod];exact congrArg (λx=>x%(S:Int)) oO
 clear b a;go_enter Tryz.func117,Tryz.ntmps117;go_wp2_with fail
 refine(nu C S P A B _ _ g oS (by go_simp) (by go_simp)).mono ?_;rintro e w1 ⟨rfl,d⟩;rw[i.out];have c:=cX.step (cX.alloc (cX.start w C S P 89) (.cells #[.int .i64 A,.int .i64 B] 3)) d;obtain⟨-,o,p,q,r⟩:=id c;have k:=Lib.hid c;clear c d;go_wp2_with fail
 go_ret2
 exact⟨CA j.out rfl,k.out.below⟩
theorem KO (C S P A B:Nat) (w:World) (a:VF C S P) (f:A<S) (hb:B<S) (c:P≠0):
 Calls Tryz.prog 117 #[ba C S P,.int .i64 A,.int .i64 B] w λe w'=>e= .returned (rE ((bE S P A B:Nat),0))/\Below w.heap.size w w':=by
 have l:=a.le;have m:=a.aT;have g:(P:Int)<=9223372036854775807:=a.qz;have i:Hid ((aW C S P&&fK S [(A:Int),(B:Int)])=true):=(rF _ _ _ _ _).trans (fJ a f hb);have n:(((P:Nat):Int)!=0)=true:=by rw[bne_iff_ne];omega
 have j:Hid (bits BinOp.xor IntKind.i64 (A:Int) (B:Int)=((bE S P A B:Nat):Int)):=by
  show _=_;unfold bE;rw[if_neg c];exact gJ A B oO oO
 clear c a;go_enter Tryz.func117,Tryz.ntmps117;go_wp2_with fail
 refine(nu C S P A B _ _ g oS (by go_simp) (by go_simp)).mono ?_;rintro e w1 ⟨rfl,d⟩;rw[i.out];have b:=cX.step (cX.alloc (cX.start w C S P 89) (.cells #[.int .i64 A,.int .i64 B] 3)) d;obtain⟨-,o,p,q,r⟩:=id b;have k:=Lib.hid b;clear b d;go_wp2_with fail
 go_ret2
 exact⟨CA j.out rfl,k.out.below⟩
theorem Jo (C S P A B:Nat) (w:World) (a:VF C S P) (g:A<S) (hb:B<S):
 Calls Tryz.prog 159 #[ba C S P,.int .i64 A,.int .i64 B] w λe w'=>e= .returned (rE ((aM S P A B:Nat),0))/\Below w.heap.size w w':=by
 have n:=a.le;have o:=a.aT;have i:(P:Int)<=9223372036854775807:=a.qz;have j:Hid ((aW C S P&&fK S [(A:Int),(B:Int)])=true):=(rF _ _ _ _ _).trans (fJ a g hb);have k:=Lib.hid a;clear a;go_enter Tryz.func159,Tryz.ntmps159;go_wp2_with fail
 refine(nu C S P A B _ _ i oS (by go_simp) (by go_simp)).mono ?_;rintro e w1 ⟨rfl,d⟩;rw[j.out];have b:=cX.step (cX.alloc (cX.start w C S P 89) (.cells #[.int .i64 A,.int .i64 B] 3)) d;obtain⟨-,p,q,r,s⟩:=id b;have l:=Lib.hid b;clear b d;go_wp2_with fail
 refine(sG C S P _ _ _ k.out oO oO oO oO).mono ?_;rintro e w2 ⟨rfl,f⟩;have c:=cX.step l.out f;obtain⟨-,t,u,v,x⟩:=id c;have m:=Lib.hid c;clear c f;go_wp2_with fail
 go_ret2
 exact⟨rfl,m.out.below⟩
theorem xx (C S P:Nat) (w:World) (a:VF C S P):
 Calls Tryz.prog 158 #[ba C S P] w λe w'=>e= .returned (rE ((ay S P:Nat),0))/\Below w.heap.size w w':=by
 have m:=a.le;have n:=a.aT;have g:(P:Int)<=9223372036854775807:=a.qz;have i:Hid (aW C S P=true):=jg a;have j:=Lib.hid a;clear a;go_enter Tryz.func158,Tryz.ntmps158;go_wp2_with fail
 refine(x8 C S P _ g).mono ?_;rintro e w1 ⟨rfl,d⟩;rw[i.out];have b:=cX.step (cX.start w C S P 89) d;obtain⟨-,o,p,q,r⟩:=id b;have k:=Lib.hid b;clear b d;go_wp2_with fail
 refine(xf C S P _ j.out).mono ?_;rintro e w2 ⟨rfl,f⟩;have c:=cX.step k.out f;obtain⟨-,s,t,u,v⟩:=id c;have l:=Lib.hid c;clear c f;go_wp2_with fail
 go_ret2
 exact⟨rfl,l.out.below⟩
theorem J2 (c s p a b:Int) (w:World) (hs:s<=9223372036854775807) (i:p<=9223372036854775807):
 Calls Tryz.prog 117 #[ba c s p,.int .i64 a,.int .i64 b] w λe w'=>e= .returned (rE (xV c s p a b))/\Below w.heap.size w w':=by
 cases h:qv c s p a b
 ·unfold xV;rw[h];exact KG c s p a b w i h
 ·unfold xV;rw[h];obtain⟨C,S,P,A,B,rfl,rfl,rfl,rfl,rfl,d,hb,f⟩:=CN h;simp only[Int.toNat_natCast,if_true];by_cases g:P=0
  ·exact KB C S P A B w f d hb g
  ·exact KO C S P A B w f d hb g
theorem gu (c s p a b:Int) (w:World) (hs:s<=9223372036854775807) (d:p<=9223372036854775807):
 Calls Tryz.prog 159 #[ba c s p,.int .i64 a,.int .i64 b] w λe w'=>e= .returned (rE (mulR c s p a b))/\Below w.heap.size w w':=by
 cases h:qv c s p a b
 ·unfold mulR;rw[h];exact KA c s p a b w d h
 ·unfold mulR;rw[h];obtain⟨C,S,P,A,B,rfl,rfl,rfl,rfl,rfl,f,hb,g⟩:=CN h;simp only[Int.toNat_natCast,if_true];exact Jo C S P A B w g f hb
theorem qx (c s p:Int) (w:World) (hs:s<=9223372036854775807) (a:p<=9223372036854775807):
 Calls Tryz.prog 158 #[ba c s p] w λe w'=>e= .returned (rE (s9 c s p))/\Below w.heap.size w w':=by
 cases h:aW c s p
 ·unfold s9;rw[h];exact yb c s p w a h
 ·unfold s9;rw[h];obtain⟨C,S,P,rfl,rfl,rfl,b⟩:=pk h;simp only[Int.toNat_natCast,if_true];exact xx C S P w b
theorem KR (c s p a:Int) (w:World):
 Calls Tryz.prog 167 #[ba c s p,.int .i64 a] w λe w'=>e= .returned (.bool (nf s a))/\Below w.heap.size w w':=by
 by_cases d:0<=a
 ·by_cases f:a<s
  ·have b:Hid (nf s a=true):=by show _=_;unfold nf;simp;omega
   go_enter Tryz.func167,Tryz.ntmps167;go_wp2;go_ret;exact⟨aN (by rw[b.out]),(Below.refl _ _).alloc (Nat.le_refl _) _⟩
  ·have b:Hid (nf s a=false):=by show _=_;unfold nf;simp;omega
   go_enter Tryz.func167,Tryz.ntmps167;go_wp2;go_ret;exact⟨aN (by rw[b.out]),(Below.refl _ _).alloc (Nat.le_refl _) _⟩
 ·have b:Hid (nf s a=false):=by show _=_;unfold nf;simp;omega
  go_enter Tryz.func167,Tryz.ntmps167;go_wp2;go_ret;exact⟨aN (by rw[b.out]),(Below.refl _ _).alloc (Nat.le_refl _) _⟩
abbrev dP (c s p e:Int):Value:= .tuple #[.agg #[.int .i64 c,.int .i64 s,.int .i64 p],.int .i64 e]
def qn (d p:Int):Bool:=decide (1<=d)&&decide (d<=12)&&fu p d
theorem CO (d p:Int) (a:1<=d) (b:d<=12):aW 2 ((2^d.toNat:Nat):Int) p=fu p d:=by
 obtain⟨D,rfl⟩:=Int.eq_ofNat_of_zero_le (by omega:0<=d);rw[lq,Int.toNat_natCast,Int.toNat_natCast,uI];have e:(((D+1:Nat):Int)-1)=(D:Int):=oO;rw[e,show D+1-1=D from by omega];simp;intro _;omega
theorem Aq (d p:Int) (w:World) (h:d<1\/12<d):
 Calls Tryz.prog 110 #[.int .i64 d,.int .i64 p] w λe w'=>e= .returned (dP 0 0 0 3)/\Below w.heap.size w w':=by
 rcases h with h|h
 ·go_enter Tryz.func110,Tryz.ntmps110;go_wp2;exact bodyPost_ret (v:=dP 0 0 0 3) (by simp[results,Tryz.results110,go_sem]) rfl ⟨rfl,(Below.refl _ _).alloc (Nat.le_refl _) _⟩
 ·have a:¬d<1:=oO;go_enter Tryz.func110,Tryz.ntmps110;go_wp2;exact bodyPost_ret (v:=dP 0 0 0 3) (by simp[results,Tryz.results110,go_sem]) rfl ⟨rfl,(Below.refl _ _).alloc (Nat.le_refl _) _⟩
theorem Fh (d p s:Int) (w:World) (l:1<=d) (m:d<=12) (j:p<=9223372036854775807) (hs:wrap64 (2^d.toNat)=s) (ok:Bool) (i:aW 2 s p=ok):
 Calls Tryz.prog 110 #[.int .i64 d,.int .i64 p] w λe w'=>e= .returned (if ok then dP 2 s p 0 else dP 0 0 0 38)/\Below w.heap.size w w':=by
 have k:=Lib.hid i;clear i;go_enter Tryz.func110,Tryz.ntmps110;go_wp2_with fail
 refine(ij _ _ _ _ j).mono ?_;rintro e w1 ⟨rfl,b⟩;rw[k.out];obtain⟨a,c⟩:=Jf b;have c0:w1.cell? ⟨w.heap.size,0,none⟩=some (.int .i64 0):=by rw[a _ _ oT];go_simp
 have c1:w1.cell? ⟨w.heap.size,1,none⟩=some (.int .i64 0):=by rw[a _ _ oT];go_simp
 have f:w1.cell? ⟨w.heap.size,2,none⟩=some (.int .i64 0):=by rw[a _ _ oT];go_simp
 have n:w1.frozen? ⟨w.heap.size,0,none⟩=false:=by rw[c _ _ oT];go_simp
 have o:w1.frozen? ⟨w.heap.size,1,none⟩=false:=by rw[c _ _ oT];go_simp
 have q:w1.frozen? ⟨w.heap.size,2,none⟩=false:=by rw[c _ _ oT];go_simp
 have x:w.heap.size+1<w1.heap.size:=by have:=b.size;simp at this;omega
 have r:w1.cell? ⟨w.heap.size+1,0,none⟩=some (.int .i64 2):=by rw[a _ _ oS];go_simp
 have t:w1.cell? ⟨w.heap.size+1,1,none⟩=some (.int .i64 s):=by rw[a _ _ oS];go_simp
 have u:w1.cell? ⟨w.heap.size+1,2,none⟩=some (.int .i64 p):=by rw[a _ _ oS];go_simp
 have g:Hid (Below w.heap.size w w1):=(((Below.refl _ _).alloc (Nat.le_refl _) _).alloc oS _).trans (b.mono oT);clear a c b;cases ok
 ·go_wp2;exact bodyPost_ret (v:=dP 0 0 0 38) (by simp[results,Tryz.results110,go_sem,c0,c1,f]) rfl ⟨rfl,((g.out.setCell oS _).setCell oS _).setCell oS _⟩
 ·go_wp2;exact bodyPost_ret (v:=dP 2 s p 0) (by simp[results,Tryz.results110,go_sem,c0,c1,f]) rfl ⟨rfl,((g.out.setCell oS _).setCell oS _).setCell oS _⟩
def gl (d p:Int):Value:=if qn d p then dP 2 ((2^d.toNat:Nat):Int) p 0 else if 1<=d/\d<=12 then dP 0 0 0 38 else dP 0 0 0 3
theorem wF (d:Int) (a:1<=d) (b:d<=12):wrap64 (2^d.toNat)=((2^d.toNat:Nat):Int):=IE d.toNat oO
theorem kE (d p:Int) (w:World) (a:p<=9223372036854775807):
 Calls Tryz.prog 110 #[.int .i64 d,.int .i64 p] w λe w'=>e= .returned (gl d p)/\Below w.heap.size w w':=by
 by_cases h:1<=d/\d<=12
 ·refine(Fh d p _ w h.1 h.2 a (wF d h.1 h.2) _ rfl).mono ?_;rintro e w' ⟨rfl,hb⟩;refine⟨?_,hb⟩;unfold gl qn;rw[CO d p h.1 h.2];cases fu p d<;>simp[h.1,h.2]
 ·have:gl d p=dP 0 0 0 3:=by
   unfold gl qn;rw[if_neg oT,if_neg h]
  rw[this];exact Aq d p w oO
theorem xK (d p:Int) (w:World) (h:d<1\/12<d):
 Calls Tryz.prog 125 #[.int .i64 d,.int .i64 p] w λe w'=>e= .returned (dP 0 0 0 3)/\Below w.heap.size w w':=by
 rcases h with h|h
 ·go_enter Tryz.func125,Tryz.ntmps125;go_wp2;exact bodyPost_ret (v:=dP 0 0 0 3) (by simp[results,Tryz.results125,go_sem]) rfl ⟨rfl,(Below.refl _ _).alloc (Nat.le_refl _) _⟩
 ·have a:¬d<1:=oO;go_enter Tryz.func125,Tryz.ntmps125;go_wp2;exact bodyPost_ret (v:=dP 0 0 0 3) (by simp[results,Tryz.results125,go_sem]) rfl ⟨rfl,(Below.refl _ _).alloc (Nat.le_refl _) _⟩
theorem AU (d p z:Int) (w:World) (a:1<=d) (b:d<=12) (c:wrap64 (2^(d+1).toNat)=z) (f:z<=p):
 Calls Tryz.prog 125 #[.int .i64 d,.int .i64 p] w λe w'=>e= .returned (dP 0 0 0 38)/\Below w.heap.size w w':=by
 go_enter Tryz.func125,Tryz.ntmps125;go_wp2;exact bodyPost_ret (v:=dP 0 0 0 38) (by simp[results,Tryz.results125,go_sem]) rfl ⟨rfl,(Below.refl _ _).alloc (Nat.le_refl _) _⟩
theorem DQ (d p s z:Int) (w:World) (g:1<=d) (b:d<=12) (hs:wrap64 (2^d.toNat)=s) (i:wrap64 (2^(d+1).toNat)=z) (j:p<z) (c:p<=9223372036854775807) (ok:Bool) (a:fu p d=ok):
 Calls Tryz.prog 125 #[.int .i64 d,.int .i64 p] w λe w'=>e= .returned (if ok then dP 2 s p 0 else dP 0 0 0 38)/\Below w.heap.size w w':=by
 have f:=Lib.hid a;clear a;go_enter Tryz.func125,Tryz.ntmps125;go_wp2_with fail
 refine(yr _ _ _ c oO b).mono ?_;rintro e w1 ⟨rfl,rfl⟩;rw[f.out];cases ok
 ·go_wp2;exact bodyPost_ret (v:=dP 0 0 0 38) (by simp[results,Tryz.results125,go_sem]) rfl ⟨rfl,(Below.refl _ _).alloc (Nat.le_refl _) _⟩
 ·go_wp2;exact bodyPost_ret (v:=dP 2 s p 0) (by simp[results,Tryz.results125,go_sem]) rfl ⟨rfl,(Below.refl _ _).alloc (Nat.le_refl _) _⟩
theorem jK (d p:Int) (w:World) (b:p<=9223372036854775807):
 Calls Tryz.prog 125 #[.int .i64 d,.int .i64 p] w λe w'=>e= .returned (gl d p)/\Below w.heap.size w w':=by
 by_cases h:1<=d/\d<=12
 ·have c:=IE (d+1).toNat oO;by_cases a:p<wrap64 (2^(d+1).toNat)
  ·refine(DQ d p _ _ w h.1 h.2 (wF d h.1 h.2) rfl a b _ rfl).mono ?_;rintro e w' ⟨rfl,hb⟩;refine⟨?_,hb⟩;unfold gl qn;cases fu p d<;>simp[h.1,h.2]
  ·have hn:fu p d=false:=by
    unfold fu;rw[c]at a;have:¬(bl p.toNat:Int)=d+1:=by
     intro e;have:=(aR p.toNat (d+1).toNat).1 oO;omega
    rw[decide_eq_false this];simp
   have:gl d p=dP 0 0 0 38:=by
    unfold gl qn;rw[hn,if_neg oS,if_pos h]
   rw[this];exact AU d p _ w h.1 h.2 rfl oO
 ·have:gl d p=dP 0 0 0 3:=by
   unfold gl qn;rw[if_neg oT,if_neg h]
  rw[this];exact xK d p w oO
def RD (w:World) (A:Option Addr) (xs:List Int):Prop:=
 0<xs.length->∃a,A=some a/\a.block<w.heap.size/\∀j,j<xs.length->w.cell? (a.add j)=some (.int .i64 (xs.getD j 0))
theorem RD.below {W a:World} {A:Option Addr} {xs:List Int} (h:RD W A xs) (hb:Below W.heap.size W a):RD a A xs:=λhn=>by
 obtain⟨b,e,hl,hc⟩:=h hn;exact⟨b,e,Nat.lt_of_lt_of_le hl hb.size,λj c=>(hb.cell (by rw[aV];exact hl)).trans (hc j c)⟩
theorem RD.alloc {W:World} {A:Option Addr} {xs:List Int} (h:RD W A xs) (a:Obj):RD (W.alloc a) A xs:=h.below ((Below.refl _ _).alloc (Nat.le_refl _) a)
theorem RD.dD (W:World) (A:Option Addr):RD W A []:=λh=>absurd h oS
theorem RD.bU {W:World} {base:Nat} {e:TypeId} {n:Nat} {A:Option Addr} {c:Nat} {xs:List Int} (h:W.ownsRow base e 1 (.slice A n c) n (xs.map (Value.int .i64))):RD W A xs:=λhn=>by
 have hl:xs.length=n:=by have:=h.1;simpa using this
 obtain⟨g,cap,a,_,f⟩:=h.form oO;have b:A=some ⟨g,0,none⟩:=by injection a
 subst b;refine⟨_,rfl,f,λj d=>h.cells (g:=g) rfl j _ ?_⟩;simp[List.getD,d]
def zl (l:List Nat):List Int:=l.map (λn:Nat=>(n:Int))
theorem aB (l:List Nat):(zl l).length=l.length:=by simp[zl]
theorem dV (l:List Nat) (i:Nat):(zl l).getD i 0=((l.getD i 0:Nat):Int):=by
 unfold zl;by_cases h:i<l.length
 ·simp[List.getD,h]
 ·simp[List.getD,List.getElem?_eq_none (show l.length<=i by omega)]
def bh (w:World) (v:Value) (xs:List Int):Prop:=∃A c,v= .slice A xs.length c/\xs.length<=c/\c<=maxLen/\RD w A xs
theorem bh.below {W a:World} {v:Value} {xs:List Int} (h:bh W v xs) (hb:Below W.heap.size W a):bh a v xs:=by
 obtain⟨A,c,rfl,b,d,e⟩:=h;exact⟨A,c,rfl,b,d,e.below hb⟩
theorem bh.dD (w:World):bh w (.slice none 0 0) []:=⟨none,0,rfl,by simp,by simp,RD.dD _ _⟩
theorem bh.bU {W:World} {base:Nat} {e:TypeId} {n:Nat} {v:Value} {xs:List Int} (h:W.ownsRow base e 1 v n (xs.map (Value.int .i64))):bh W v xs:=by
 have hl:xs.length=n:=by have:=h.1;simpa using this
 rcases h.2 with⟨rfl,rfl⟩|⟨g,cap,a,rfl,_,_,b,rm,_⟩
 ·have:xs=[]:=List.eq_nil_of_length_eq_zero hl;subst this;exact bh.dD _
 ·refine⟨_,cap,by rw[hl],by omega,rm,RD.bU h⟩
theorem pO {s:Int} {xs:List Int} {k:Nat} (a:k<xs.length) (h:¬(0<=xs.getD k 0/\xs.getD k 0<s)):fK s xs=false:=by
 unfold fK;rw[List.all_eq_false];refine⟨xs[k],List.getElem_mem a,?_⟩;have e:xs.getD k 0=xs[k]:=by simp[List.getD,a]
 rw[e]at h;simpa[Classical.not_and_iff_not_or_not]using h
theorem vO {s:Int} {xs:List Int} (h:∀j,j<xs.length->0<=xs.getD j 0/\xs.getD j 0<s):fK s xs=true:=by
 unfold fK;rw[List.all_eq_true];intro a c;obtain⟨j,b,rfl⟩:=List.getElem_of_mem c;have:=h j b;rw[List.getD_eq_getElem?_getD,List.getElem?_eq_getElem b]at this;simpa using this
theorem AA (c s p:Int) (xs:List Int) (A:Option Addr) (q:Nat) (w:World) (v:xs.length<=9223372036854775807) (l:RD w A xs):
 Calls Tryz.prog 190 #[ba c s p,.slice A xs.length q] w λe w'=>e= .returned (.bool (fK s xs))/\Below w.heap.size w w':=by
 have r:=Lib.hid (l.alloc (.cells #[.int .i64 c,.int .i64 s,.int .i64 p] 89));clear l;generalize hn:xs.length=n at*;have a:=Lib.hid hn;clear hn;go_enter Tryz.func190,Tryz.ntmps190;go_wp2;go_loop [6,9] (λ_ i=>∃k:Nat,k<=n/\i= .int .i64 k/\Hid (∀j,j<k->0<=xs.getD j 0/\xs.getD j 0<s)) (λ_ i=>n-(intOf i).toNat)
 case atStart=>exact⟨0,Nat.zero_le _,rfl,λj t=>by omega⟩
 case round=>
  obtain⟨k,y,rfl,hid⟩:=hrel;have g:Hid (Below w.heap.size w (w.alloc (.cells #[.int .i64 c,.int .i64 s,.int .i64 p] 89))):=(Below.refl _ _).alloc (Nat.le_refl _) _;by_cases f:k<n
  ·obtain⟨z,rfl,-,o⟩:=r.out (by rw[a.out];omega);have D:=o k (by rw[a.out];exact f);clear o;generalize m:xs.getD k 0=x at*;have d:=Lib.hid m;clear m;by_cases B:x<0
   ·have b:=Lib.hid (pO (s:=s) (k:=k) (by rw[a.out];exact f) (by rw[d.out];omega));go_wp2;go_ret;exact⟨aN b.out.symm,g.out⟩
   ·by_cases C:s<=x
    ·have b:=Lib.hid (pO (s:=s) (k:=k) (by rw[a.out];exact f) (by rw[d.out];omega));go_wp2;go_ret;exact⟨aN b.out.symm,g.out⟩
    ·go_wp2;refine⟨⟨k+1,by omega,by go_num,?_⟩,by simp[intOf];omega⟩;intro j t;by_cases u:j=k
     ·subst u;rw[d.out];omega
     ·exact hid.out j oO
  ·obtain rfl:k=n:=oO;have b:=Lib.hid (vO (s:=s) (xs:=xs) (by rw[a.out];exact hid.out));go_wp2;go_ret;exact⟨aN b.out.symm,g.out⟩
abbrev qC (C S a bl:Nat):Value:= .agg #[.int .i64 C,.int .i64 S,.slice (some ⟨a,0,none⟩) (S-1) (S-1),.slice (some ⟨bl,0,none⟩) S S]
abbrev j3 (C S a bl:Nat):Obj:= .cells #[.int .i64 C,.int .i64 S,.slice (some ⟨a,0,none⟩) (S-1) (S-1),.slice (some ⟨bl,0,none⟩) S S] 200
def eY (w:World) (S P a bl:Nat):Prop:=a<w.heap.size/\bl<w.heap.size/\(∀i,i<S-1->w.cell? ⟨a,i,none⟩=some (.int .i64 ((fpowN S P (ay S P) i:Nat):Int)))/\
 (∀x,x<S->x≠0->w.cell? ⟨bl,x,none⟩=some (.int .i64 ((fa S P x:Nat):Int)))
theorem eY.below {W a:World} {S P b bl:Nat} (h:eY W S P b bl) (hb:Below W.heap.size W a):eY a S P b bl:=
 ⟨Nat.lt_of_lt_of_le h.1 hb.size,Nat.lt_of_lt_of_le h.2.1 hb.size,λi c=>(hb.cell h.1).trans (h.2.2.1 i c),λx d e=>(hb.cell h.2.1).trans (h.2.2.2 x d e)⟩
theorem eY.alloc {W:World} {S P b bl:Nat} (h:eY W S P b bl) (a:Obj):eY (W.alloc a) S P b bl:=h.below ((Below.refl _ _).alloc (Nat.le_refl _) a)
theorem VF.Lb {C S P:Nat} (h:VF C S P):(C=2/\P≠0)\/(C≠2/\P=0):=by
 rcases h with⟨b,c,a,_⟩|⟨d,b,_,c,_,a,_⟩
 ·right;omega
 ·left;refine⟨a,?_⟩;rintro rfl;have:bl 0=0:=by decide
  omega
theorem zM (C S P g bl x y:Nat) (w:World) (a:VF C S P) (i:x<S) (j:y<S) (k:eY w S P g bl):
 Calls Tryz.prog 194 #[qC C S g bl,.int .i64 x,.int .i64 y] w λe w'=>e= .returned (.int .i64 ((aM S P x y:Nat):Int))/\Below w.heap.size w w':=by
 have o:Hid (Below w.heap.size w (w.alloc (j3 C S g bl))):=(Below.refl _ _).alloc (Nat.le_refl _) _;by_cases d:x=0
 ·subst d;have n:=Lib.hid (wV a j);clear a k;go_enter Tryz.func194,Tryz.ntmps194;go_wp2;go_ret;exact⟨bK (by rw[n.out];rfl),o.out⟩
 by_cases f:y=0
 ·subst f;have n:=Lib.hid (qY a i);clear a k;go_enter Tryz.func194,Tryz.ntmps194;go_wp2;go_ret;exact⟨bK (by rw[n.out];rfl),o.out⟩
 have s:=a.le;have B:=a.aT;have t:=(fs a i d).1;have u:=(fs a j f).1;have l:=k.alloc (j3 C S g bl);have c1:=l.2.2.2 x i d;have v:=l.2.2.2 y j f;have p:(fa S P x+fa S P y)%(S-1)<S-1:=Nat.mod_lt _ oO;have q:=l.2.2.1 _ p;rw[JW a i j d f]at q;generalize aM S P x y=r at*;generalize fa S P x=b at*;generalize fa S P y=c at*;have e1:((b:Int)+c).tmod ((S:Int)-1)=(((b+c)%(S-1):Nat):Int):=by
  rw[show(b:Int)+c=((b+c:Nat):Int)from by omega,show(S:Int)-1=((S-1:Nat):Int)from by omega];exact(Int.ofNat_tmod _ _).symm
 generalize(b+c)%(S-1)=m at*;have e2:IntKind.i64.wrap ((b:Int)+c)=(b:Int)+c:=aJ _ oO oO;have z:((x:Int)==0)=false:=by rw[beq_eq_false_iff_ne];omega
 have A:((y:Int)==0)=false:=by rw[beq_eq_false_iff_ne];omega
 clear l k a d f;go_enter Tryz.func194,Tryz.ntmps194;go_wp2;go_quiet (fail)
 go_wp2;go_ret;exact⟨rfl,iN o.out _⟩
theorem IX (C S P g bl x y:Nat) (w:World) (c:VF C S P) (i:x<S) (j:y<S) (d:y≠0) (l:eY w S P g bl):
 Calls Tryz.prog 192 #[qC C S g bl,.int .i64 x,.int .i64 y] w λe w'=>e= .returned (.int .i64 ((aM S P x (iV S P y):Nat):Int))/\Below w.heap.size w w':=by
 have n:Hid (Below w.heap.size w (w.alloc (j3 C S g bl))):=(Below.refl _ _).alloc (Nat.le_refl _) _;by_cases f:x=0
 ·subst f;have o:=Lib.hid (wV c (rI c (x:=y)));clear c l j i d;go_enter Tryz.func192,Tryz.ntmps192;go_wp2;go_ret;exact⟨bK (by rw[o.out];rfl),n.out⟩
 have s:=c.le;have A:=c.aT;have t:=(fs c i f).1;have u:=(fs c j d).1;have k:=l.alloc (j3 C S g bl);have c1:=k.2.2.2 x i f;have v:=k.2.2.2 y j d;have p:(fa S P x+(S-1)-fa S P y)%(S-1)<S-1:=Nat.mod_lt _ oO;have q:=k.2.2.1 _ p;rw[Jr c i j f d]at q;generalize aM S P x (iV S P y)=r at*;generalize fa S P x=a at*;generalize fa S P y=b at*;have e1:((a:Int)-b+S-1).tmod ((S:Int)-1)=(((a+(S-1)-b)%(S-1):Nat):Int):=by
  rw[show(a:Int)-b+S-1=((a+(S-1)-b:Nat):Int)from by omega,show(S:Int)-1=((S-1:Nat):Int)from by omega];exact(Int.ofNat_tmod _ _).symm
 generalize(a+(S-1)-b)%(S-1)=m at*;have e2:IntKind.i64.wrap ((a:Int)-b)=(a:Int)-b:=aJ _ oO oO;have e3:IntKind.i64.wrap ((a:Int)-b+S)=(a:Int)-b+S:=aJ _ oO oO;have e4:IntKind.i64.wrap ((a:Int)-b+S-1)=(a:Int)-b+S-1:=aJ _ oO oO;have z:((x:Int)==0)=false:=by rw[beq_eq_false_iff_ne];omega
 clear k l c f d;go_enter Tryz.func192,Tryz.ntmps192;go_wp2;go_quiet (fail)
 go_wp2;go_ret;exact⟨rfl,iN n.out _⟩
theorem yd (C S P c bl x y:Nat) (w:World) (a:VF C S P) (i:x<S) (j:y<S):
 Calls Tryz.prog 193 #[qC C S c bl,.int .i64 x,.int .i64 y] w λe w'=>e= .returned (.int .i64 ((bE S P x y:Nat):Int))/\Below w.heap.size w w':=by
 have f:Hid (Below w.heap.size w (w.alloc (j3 C S c bl))):=(Below.refl _ _).alloc (Nat.le_refl _) _;have k:=a.le;rcases a.Lb with⟨rfl,d⟩|⟨g,rfl⟩
 ·have b:Hid (bits BinOp.xor IntKind.i64 (x:Int) (y:Int)=((bE S P x y:Nat):Int)):=by
   show _=_;rw[gJ _ _ oO oO];unfold bE;rw[if_neg d]
  clear a d;go_enter Tryz.func193,Tryz.ntmps193;go_wp2;go_ret;exact⟨bK b.out,f.out⟩
 ·have m:=a.aT;have b:Hid (((x:Int)-y+S)%S=((bE S 0 x y:Nat):Int)):=by
   show _=_;unfold bE;rw[if_pos rfl,show(x:Int)-y+S=((x+S-y:Nat):Int)from by omega];exact(Int.natCast_emod _ _).symm
  have l:((C:Int)==2)=false:=by rw[beq_eq_false_iff_ne];omega
  clear a g;go_enter Tryz.func193,Tryz.ntmps193;go_wp2;go_ret;exact⟨bK b.out,f.out⟩
theorem GQ (ys:List Int):∀u∈ys.map (Value.int .i64),u.oneCell'=true:=by
 intro u a;obtain⟨y,_,rfl⟩:=List.mem_map.1 a;rfl
section
variable {P : Program} (w : World)
theorem uF (base:Nat) (a f e:TypeId) (i:TypeInfo) (b:P.underlying a=some (.slice e)) (d:P.info? e=some i)
 (v:Value) (n:Nat) (xs:List Value) (k:w.ownsRow base e 1 v n xs) (c:Nat):(Builtin.append_ #[a,a] f #[v,.slice none 0 c]).run P w= .ok v w:=by
 rcases k.2 with⟨rfl,rfl⟩|⟨g,cap,l,rfl,_,_,j,_⟩
 ·simp[Builtin.append_,run_underlying b,sizeOf,typeInfo,d,Builtin.lenOf,Builtin.firstCells]
 ·simp[Builtin.append_,run_underlying b,sizeOf,typeInfo,d,Builtin.lenOf,Builtin.firstCells,j,storeCells]
theorem sa (base:Nat) (b d e:TypeId) (i:TypeInfo) (z:Value) (k:P.underlying b=some (.slice e)) (l:P.info? e=some i) (q:i.zero=some z)
 (J:i.size=1) (E:i.bytes=8) (F:z.cells.size=1)
 (v:Value) (n:Nat) (xs:List Int) (g:w.ownsRow base e 1 v n (xs.map (Value.int .i64)))
 (A:Option Addr) (m c:Nat) (ys:List Int) (r:m=ys.length) (s:RD w A ys) (t:A=none->m=0)
 (G:(n+m)* 8<=140737488355328) (K:base<=w.heap.size):
 ∃a w',(Builtin.append_ #[b,b] d #[v,.slice A m c]).run P w= .ok a w'/\w'.ownsRow base e 1 a (n+m) ((xs++ys).map (Value.int .i64))/\w.grownBy w' v.ownBlock/\
  (a.ownBlock=v.ownBlock\/a.ownBlock=some w.heap.size):=by
 subst r;rcases A with _|o
 ·have x:=t rfl;have y:ys=[]:=List.eq_nil_of_length_eq_zero x;subst y;exact⟨v,w,uF w base b d e i k l v n _ g c,by simpa using g,World.grownBy.refl w _,.inl rfl⟩
 ·have L:∀j u,(ys.map (Value.int .i64))[j]?=some u->w.cell? (o.add j)=some u:=by
   intro j u f;have p:j<ys.length:=by
    rcases Nat.lt_or_ge j ys.length with h|h
    ·exact h
    ·rw[List.getElem?_eq_none (by simpa using h)]at f;cases f
   obtain⟨M,h,_,hc⟩:=s oO;injection h with h;subst h;rw[hc j p];simpa[List.getD,p]using f
  obtain⟨a,w',H,B,C,_,D⟩:=run_append_own_at (P:=P) w base b d e i z 1 8 k l q J E F oO v n _ g o ys.length c (ys.map (Value.int .i64)) oS L (GQ ys)
   (by simp only[maxLen];omega) G K
  exact⟨a,w',H,by rw[List.map_append];exact B,C,D⟩
omit w in
theorem eA {w:World} {ops:Array Oper} {rest:List Oper} {o:Oper} {a:Act} {Q:Exit->Act->World->Prop} (hgd:o.guard=none) (s x:Operand) (t:TypeId)
 (ho:o.op= .call {callee:= .builtin .append,args:=#[s,x],argTypes:=#[t,t]})
 (base:Nat) (e:TypeId) (i:TypeInfo) (z:Value) (ht:P.underlying t=some (.slice e)) (hi:P.info? e=some i) (hz:i.zero=some z)
 (hsize:i.size=1) (hby:i.bytes=8) (hzs:z.cells.size=1)
 (v:Value) (n:Nat) (xs:List Int) (hs:a.eval s=v) (hown:w.ownsRow base e 1 v n (xs.map (Value.int .i64)))
 (A:Option Addr) (m c:Nat) (ys:List Int) (hx:a.eval x= .slice A m c) (hm:m=ys.length) (hr:RD w A ys)
 (h63:(n+m)* 8<=140737488355328) (hbase:base<=w.heap.size)
 (h:∀v' w',w'.ownsRow base e 1 v' (n+m) ((xs++ys).map (Value.int .i64))->w.grownBy w' v.ownBlock->(v'.ownBlock=v.ownBlock\/v'.ownBlock=some w.heap.size)->wpList P ops Q rest (a.put o.dst v') w'):
 wpList P ops Q (o::rest) a w:=by
 refine wpList_plain hgd λK hK=>?_;have hA:A=none->m=0:=by
  intro h0;rcases Nat.eq_zero_or_pos m with h1|h1
  ·exact h1
  ·obtain⟨ad,h2,_⟩:=hr oO;rw[h0]at h2;cases h2
 obtain⟨v',w',hrun,h2,h3,h4⟩:=sa (P:=P) w base t o.type e i z ht hi hz hsize hby hzs v n xs hown A m c ys hm hr hA h63 hbase;unfold Oper.wp execOp;simp only[ho,resolve,invoke,builtin,Sem.run_bind,Sem.run_pure,Result.andThen_ok,List.map_toArray,List.map_cons,List.map_nil,hs,hx,hrun];exact hK _ _ (h v' w' h2 h3 h4)
end
def tlI (l:List Int):Nat->Nat
 |0=>0
 |n+1=>if l.getD n 0=0 then tlI l n else n+1
def rQ (l:List Int):List Int:=l.take (tlI l l.length)
theorem KV (l:List Nat) (n:Nat):tlI (zl l) n=tl l n:=by
 induction n with
 |zero=>rfl
 |succ n a=>unfold tlI tl;rw[dV,a];simp
theorem IK (l:List Nat):rQ (zl l)=zl (fg l):=by
 unfold rQ fg;rw[aB,KV];unfold zl;rw[List.map_take]
theorem RD.take {w:World} {A:Option Addr} {xs:List Int} (h:RD w A xs) (k:Nat):RD w A (xs.take k):=λhn=>by
 rw[List.length_take]at hn;obtain⟨a,e,hl,hc⟩:=h oO;refine⟨a,e,hl,λj b=>?_⟩;rw[List.length_take]at b;rw[hc j oO];simp[List.getD,show j<k by omega]
theorem Ii (xs:List Int) (A:Option Addr) (u:Nat) (w:World) (G:xs.length* 8<=140737488355328) (K:xs.length<=u) (y:RD w A xs):
 Calls Tryz.prog 116 #[.slice A xs.length u] w λe w'=>∃v,e= .returned v/\bh w' v (rQ xs)/\Below w.heap.size w w':=by
 obtain⟨l,o,q,r,s⟩:=info_parts dd;have c:=Lib.hid y;clear y;generalize hn:xs.length=n at*;have d:=Lib.hid hn;clear hn;go_enter Tryz.func116,Tryz.ntmps116;go_wp2;go_loop [3] (λi=>∃k:Nat,k<=n/\i= .int .i64 k/\Hid (tlI xs n=tlI xs k)) (λi=>(intOf i).toNat)
 case atStart=>exact⟨n,Nat.le_refl _,rfl,rfl⟩
 case round=>
  obtain⟨k,H,rfl,hid⟩:=hrel;have t:Hid (∀(m:Nat) (p:Value) (w':World),m=tlI xs n->w'.ownsRow w.heap.size 3 1 p (0+m) (([]++xs.take m).map (Value.int .i64))->w.grownBy w' none->bh w' p (rQ xs)/\Below w.heap.size w w'):=by
   rintro m p w' rfl a hg;refine⟨?_,(Below.refl _ _).grown hg (Nat.le_refl _) (λj D=>by cases D)⟩;have e:rQ xs=xs.take (tlI xs n):=by unfold rQ;rw[d.out]
   rw[e];exact bh.bU (by simpa using a)
  have L:Hid (A=none->n=0):=λe=>by
   rcases Nat.eq_zero_or_pos n with h|h
   ·exact h
   ·obtain⟨f,e2,_⟩:=c.out (by rw[d.out];exact h);rw[e]at e2;cases e2
  by_cases F:k=0
  ·subst F;have b:Hid (0=tlI xs n):=hid.out.symm;rcases A with _|f
   ·go_wp2_with(at_builtin;refine eA rfl _ _ _ rfl w.heap.size 3 l _ Tryz.underlying64 o q r s rfl (.slice none 0 0) 0 [] rfl (World.ownsRow_nil _ _ _ _) none 0 _ (xs.take 0) rfl oS (c.out.take _) oO (Nat.le_refl _) ?_;intro v1 w1 a hg z)
    go_ret;exact⟨v1,rfl,t.out 0 v1 w1 b.out a hg⟩
   ·go_wp2_with(at_builtin;refine eA rfl _ _ _ rfl w.heap.size 3 l _ Tryz.underlying64 o q r s rfl (.slice none 0 0) 0 [] rfl (World.ownsRow_nil _ _ _ _) (some f) 0 _ (xs.take 0) rfl oS (c.out.take _) oO (Nat.le_refl _) ?_;intro v1 w1 a hg z)
    go_ret;exact⟨v1,rfl,t.out 0 v1 w1 b.out a hg⟩
  ·obtain⟨m,rfl⟩:∃m,k=m+1:=⟨k-1,by omega⟩;obtain⟨f,rfl,-,hc⟩:=c.out (by rw[d.out];omega);have M:=hc m (by rw[d.out];omega);clear hc;have B:tlI xs (m+1)=if xs.getD m 0=0 then tlI xs m else m+1:=rfl
   have C:=Lib.hid B;clear B;generalize E:xs.getD m 0=x at*;clear E;by_cases g:x=0
   ·subst g;have b:Hid (tlI xs n=tlI xs m):=hid.out.trans (by rw[C.out,if_pos rfl]);go_wp2;exact⟨⟨m,by omega,by go_num,b.out⟩,by simp[intOf]⟩
   ·have b:Hid (m+1=tlI xs n):=(hid.out.trans (by rw[C.out,if_neg g])).symm;have J:(x==0)=false:=by rw[beq_eq_false_iff_ne];exact g
    clear g;go_wp2_with(at_builtin;refine eA rfl _ _ _ rfl w.heap.size 3 l _ Tryz.underlying64 o q r s rfl (.slice none 0 0) 0 [] rfl (World.ownsRow_nil _ _ _ _) (some f) (m+1) _ (xs.take (m+1)) rfl (by rw[List.length_take,d.out];omega) (c.out.take _) oO (Nat.le_refl _) ?_;intro v1 w1 a hg z)
    go_ret;exact⟨v1,rfl,t.out _ v1 w1 b.out a hg⟩
end
end Go.Proofs.YtmnlkganmgcpbaaGreatDoor
