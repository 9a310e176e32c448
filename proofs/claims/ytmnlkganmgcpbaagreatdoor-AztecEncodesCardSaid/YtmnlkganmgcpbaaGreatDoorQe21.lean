import Derived.Test.YtmnlkganmgcpbaaGreatDoorQe20
set_option maxRecDepth 100000
set_option maxHeartbeats 4000000
set_option linter.unusedVariables false
set_option linter.unusedSectionVars false
set_option linter.unusedSimpArgs false
namespace Go.Proofs.YtmnlkganmgcpbaaGreatDoor
section
open Go.RowKit
structure BG (w:World) (n b c:Nat) (a:Value) (l:List Bool) (wr:World):Prop where
 M:aa wr b #[.int .i64 (n:Int),.int .i64 (n:Int),a] 28
 G:OG vB 4 w wr a l
 R:aa wr c #[.int .i64 0,.int .i64 0,.slice none 0 0] 28
theorem BG.grow {w wr w1:World} {n a i:Nat} {d v1:Value} {l:List Bool} {b:Bool} (h:BG w n a i d l wr) (o:w.heap.size<=a) (s:a≠i)
 (t:w1.ownsRow w.heap.size 4 1 v1 (l.length+1) ((l++[b]).map vB)) (hg:(wr.alloc (.cells #[.bool b] 4)).grownBy w1 d.ownBlock):
 Hid (aa w1 a #[.int .i64 (n:Int),.int .i64 (n:Int),d] 28)/\Hid (BG w n a i v1 (l++[b]) (w1.setCell ⟨a,2,none⟩ v1)):=by
 have p:=h.G.O;have ne:∀r c,aa wr r c 28->some r≠d.ownBlock:=λr c f e=>by
  have g:=CP p e.symm;exact Tag.ne f.tag g oD rfl
 have k:∀r c,aa wr r c 28->aa w1 r c 28:=λr c f=>by
  have g:aa (wr.alloc (.cells #[.bool b] 4)) r c 28:=f.below (ar _ _);exact(hg.block r (aw g) (ne r c f)).trans g
 have j:=k _ _ h.M;have q:=k _ _ h.R;have m:OG vB 4 w w1 v1 (l++[b]):=h.G.grow (ar _ _) (by exact t) hg;refine⟨j,?_,⟨m.B.setCell o _,z6 m.O ⟨a,2,none⟩ j.tag oD _⟩,?_⟩
 ·have:=heap_setCell_same w1 a 2 _ _ v1 j;unfold aa;rw[this];rfl
 ·exact q.bw ⟨a,2,none⟩ v1 s.symm
theorem Dq {n C:Nat} {c:Bool} {i:Nat} (h:i<n* n):(bk n C c).take (i+1)=(bk n C c).take i++[jz C c (i%n,i/n)]:=by
 have hl:i<(bk n C c).length:=by rw[fD];exact h
 rw[List.take_succ_eq_append_getElem hl];congr 2;simp[bk]
theorem RO.bw {w:World} {g cap:Nat} {l:List Bool} (h:RO w g cap l) (p:Addr) (v:Value) (b:g≠p.block):RO (w.setCell p v) g cap l:=⟨h.1,h.2.elim λR a=>⟨R,a.1,a.2.bw p v b⟩⟩
theorem DO {C s:Nat} (h:s<=C) (a:1<=s) {j:Nat} (b:j<12):(C:Int)+(jy (s:Int)).getD (j* 2) 0=((((bp C s++bP C s).getD j (0,0)).1:Nat):Int)/\(C:Int)+(jy (s:Int)).getD (j* 2+1) 0=((((bp C s++bP C s).getD j (0,0)).2:Nat):Int)
 /\-(s:Int)<=(jy (s:Int)).getD (j* 2) 0/\(jy (s:Int)).getD (j* 2) 0<=s/\-(s:Int)<=(jy (s:Int)).getD (j* 2+1) 0/\(jy (s:Int)).getD (j* 2+1) 0<=s:=by
 obtain rfl|rfl|rfl|rfl|rfl|rfl|rfl|rfl|rfl|rfl|rfl|rfl:j=0\/j=1\/j=2\/j=3\/j=4\/j=5\/j=6\/j=7\/j=8\/j=9\/j=10\/j=11:=oO
 all_goals simp only[jy,bp,bP,List.getD,List.cons_append,List.nil_append,Nat.reduceMul,Nat.reduceAdd,List.getElem?_cons_succ,List.getElem?_cons_zero,Option.getD_some]
 all_goals omega
theorem EG {C s j:Nat} (a:j<6):(bp C s++bP C s).getD j (0,0)=(bp C s).getD j (0,0):=by
 have:j<(bp C s).length:=a;simp[List.getD,List.getElem?_append_left this]
theorem EY (L:Nat) (c:Bool) (w:World) (F:1<=L) (b3:L<=32):Calls Tryz.prog 106 #[.int .i64 L,.bool c] w λe w'=>∃g cap n N,n=ao L c/\N=n* n/\e= .returned (tf n n (some ⟨g,0,none⟩) N cap)/\w.heap.size<=g/\RO w' g cap (fY n (aP L c) c)/\Below w.heap.size w w':=by
 obtain⟨V,Z,ac,ad,al⟩:=info_parts fe;have a7:=lX (c:=c) F b3;have bv:=nz L c F b3;have er:Hid (∀W,Calls Tryz.prog 48 #[.int .i64 L,.bool c] W λe w'=>e= .returned (.int .i64 ((ao L c:Nat):Int))/\w'=W):=λW=>nV L c W b3;have cx:Hid (∀W,Calls Tryz.prog 126 #[.bool c] W λe w'=>∃b,e= .returned (.slice (some ⟨b,0,none⟩) 12 12)/\W.heap.size<=b/\aa w' b ((jy ((bD c:Nat):Int)).map (Value.int .i64)).toArray 47/\Below W.heap.size W w'):=λW=>EB c W;have c2:Hid (fY (ao L c) (aP L c) c=wrL (ao L c) (bk (ao L c) (aP L c) c) (bp (aP L c) (bD c)) fL):=oc oO a7.2.2;obtain⟨m,b4⟩:∃m,m=bD c:=⟨_,rfl⟩;have a2:=DF c;have es:Hid (∀j,j<6->∃p:Pt,p=(bp (aP L c) m).getD j (0,0)/\((aP L c:Nat):Int)+(jy (m:Int)).getD (j* 2) 0=(p.1:Int)/\((aP L c:Nat):Int)+(jy (m:Int)).getD (j* 2+1) 0=(p.2:Int)/\p.1<ao L c/\p.2<ao L c/\-7<=(jy (m:Int)).getD (j* 2) 0/\(jy (m:Int)).getD (j* 2) 0<=7/\-7<=(jy (m:Int)).getD (j* 2+1) 0/\(jy (m:Int)).getD (j* 2+1) 0<=7):=by
  show∀j,_->_;intro j G;have z:=DO (C:=aP L c) (s:=m) oO oO (j:=j) oO;rw[EG G]at z;have et:(bp (aP L c) m).getD j (0,0)∈bp (aP L c) m:=by
   have:j<(bp (aP L c) m).length:=G;simp only[List.getD,List.getElem?_eq_getElem this,Option.getD_some];exact List.getElem_mem this
  have cp:=pW oO oO et;exact⟨_,rfl,z.1,z.2.1,by omega,by omega,by omega,by omega,by omega,by omega⟩
 have eu:Hid (∀j,j<6->wrL (ao L c) (bk (ao L c) (aP L c) c) ((bp (aP L c) m).take (j+1)) (fL.take (j+1))=(wrL (ao L c) (bk (ao L c) (aP L c) c) ((bp (aP L c) m).take j) (fL.take j)).set (df (ao L c) ((bp (aP L c) m).getD j (0,0))) true):=by
  show∀j,_->_;intro j G;have z:=mV (ao L c) (bk (ao L c) (aP L c) c) (bp (aP L c) m) fL (i:=j) G G;have cp:∀j,j<6->fL.getD j false=true:=by decide
  rw[cp j G]at z;exact z
 rw[<-b4]at cx c2 a7 a2;have bq:Hid (m=if c=true then 5 else 7):=b4;generalize ao L c=n at*;generalize aP L c=C at*;clear b4;obtain⟨N,bs⟩:∃N,N=n* n:=⟨_,rfl⟩;have P:=Lib.hid bs;have f9:N<=25921:=by rw[bs];exact Nat.mul_le_mul bv.2 bv.2
 have ga:(n:Int)* (n:Int)=(N:Int):=by rw[bs];simp
 obtain⟨n1,ex⟩:∃n1,n1=n-1:=⟨_,rfl⟩;have gb:(n:Int)-1=(n1:Int):=oO;have gc:(n1:Int)/2=(C:Int):=oO;have gd:C<=80:=oO;have ge:C<n:=oO;have gg:Hid (n=2* C+1/\m+2<=C):=⟨a7.2.2,a7.1⟩;clear bs ex a7;obtain⟨o,b9⟩:∃o,o=w.heap.size:=⟨_,rfl⟩;obtain⟨k,ca⟩:∃k,k=w.heap.size+1:=⟨_,rfl⟩;obtain⟨w1,a8⟩:∃w1,w1=w.alloc (.cells #[.int .i64 0,.int .i64 0,.slice none 0 0] 28):=⟨_,rfl⟩;have c3:w1.heap.size=k:=by rw[a8,ca];simp
 obtain⟨b5,a9⟩:∃b5,b5=w1.alloc (.cells #[.int .i64 (n:Int),.int .i64 (n:Int),.slice none 0 0] 28):=⟨_,rfl⟩;have c4:Hid (BG w n k o (.slice none 0 0) [] b5):=by
  show BG _ _ _ _ _ _ _;have d6:aa w1 o #[.int .i64 0,.int .i64 0,.slice none 0 0] 28:=by rw[a8];exact aa.new _ _ _ _ b9
  refine⟨?_,⟨?_,World.ownsRow_nil _ _ _ _⟩,?_⟩
  ·rw[a9];exact aa.new _ _ _ _ c3.symm
  ·rw[a9,a8];exact ae (ar _ _) _
  ·rw[a9];exact d6.below (ar _ _)
 have c5:Hid (w.heap.size<=k/\k≠o):=by show _/\_;omega
 have f3:Hid (w.heap.size<=o):=by show _<=_;omega
 go_enter Tryz.func106,Tryz.ntmps106;go_wp2_with(go_at_call 48;refine(er.out _).mono ?_;rintro e w2 ⟨rfl,am⟩;rw[am];clear am)
 simp only[<-ca,<-a8,<-a9];simp only[<-b9];clear a9 a8 c3 b9 ca;go_loopw [8] (λQ wr=>∃(i:Nat) (A:Value),i<=N/\Q= .int .i64 i/\Hid (BG w n k o A ((bk n C c).take i) wr)) (λQ _=>N-(intOf Q).toNat)
 case atStart=>exact⟨0,_,Nat.zero_le _,rfl,c4.out⟩
 case round=>
  clear c4;obtain⟨i,A,ey,rfl,u⟩:=hrel;by_cases bb:i<N
  ·obtain⟨x,S⟩:∃x,x=i%n:=⟨_,rfl⟩;obtain⟨y,T⟩:∃y,y=i/n:=⟨_,rfl⟩;have gi:x<n:=by rw[S];exact Nat.mod_lt _ oO
   have go:y<n:=by rw[T];exact(Nat.div_lt_iff_lt_mul oO).2 (by rw[<-P.out];exact bb)
   have gq:¬n=0:=oO;have d7:(i:Int)%(n:Int)=(x:Int):=by rw[S];simp
   have d8:(i:Int)/(n:Int)=(y:Int):=by rw[T];simp
   have gs:(i:Int).tmod (n:Int)=(x:Int):=by rw[Int.tmod_eq_emod_of_nonneg oO];exact d7
   have gt:(i:Int).tdiv (n:Int)=(y:Int):=by rw[Int.tdiv_eq_ediv_of_nonneg oO];exact d8
   have d9:IntKind.i64.wrap (y:Int)=(y:Int):=aJ _ oO oO;obtain⟨X,b6⟩:∃X:Int,X=(x:Int)-(C:Int):=⟨_,rfl⟩;obtain⟨Y,b7⟩:∃Y:Int,Y=(y:Int)-(C:Int):=⟨_,rfl⟩;have ea:(x:Int)-(C:Int)=X:=b6.symm;have ec:(y:Int)-(C:Int)=Y:=b7.symm;have ez:IntKind.i64.wrap X=X:=aJ _ oO oO;have e0:IntKind.i64.wrap Y=Y:=aJ _ oO oO;have gx:IntKind.i64.wrap (-X)=-X:=aJ _ oO oO;have gy:IntKind.i64.wrap (-Y)=-Y:=aJ _ oO oO;obtain⟨d,bt⟩:∃d,d=mo C (x,y):=⟨_,rfl⟩;have gL:d<=161:=by rw[bt];unfold mo jA;simp only;omega
   have gN:En X (-X) Y (-Y)=(d:Int):=by
    have B:=Ek x y C;rw[b6,b7,bt,<-B];congr 1<;>omega
   have gX:=yJ;have O:Hid (jz C c (i%n,i/n)=if d<m then d%2==0 else !c&&AF X Y):=by
    show _=_;have a4:=Ca x y C;rw[ea,ec]at a4;rw[<-S,<-T,a4];unfold jz;rw[<-bt,bq.out];rfl
   have bd:Hid ((bk n C c).take (i+1)=(bk n C c).take i++[jz C c (i%n,i/n)]):=Dq (by rw[<-P.out];exact bb);have be:Hid (((bk n C c).take i).length=i):=by show _=_;rw[List.length_take,fD,<-P.out];omega
   generalize jz C c (i%n,i/n)=b at*;generalize(bk n C c).take i=q at*;have gY:=u.out.M.cell 0 _ rfl;have g0:=u.out.M.cell 2 _ rfl;have ap:=Lib.hid (λ(w1:World) (v1:Value) F z=>u.out.grow (w1:=w1) (v1:=v1) (b:=b) c5.out.1 c5.out.2 F z);have av:Hid (q.length+1<=maxLen):=by show _<=_;have:=be.out;unfold maxLen;omega
   have a0:Hid ((q.length+1)* 1<=140737488355328):=by show _<=_;have:=be.out;omega
   have a1:Hid (w.heap.size<=(wr.alloc (.cells #[.bool b] 4)).heap.size):=by show _<=_;have:=u.out.G.B.size;simp;omega
   clear b6 b7 bt S T ez e0 ey;by_cases K:d<m
   ·have hb:((d:Int)%2==0)=b:=by
     have B:=O.out;rw[if_pos K]at B;rw[B,Bool.eq_iff_iff];simp;omega
    clear O;have a4:d<=6:=oO;cases c with
    |true=>
     have cb:d<=4:=by have:=bq.out;simp at this;omega
     clear K a4 a2;go_wp2_with(at_builtin;refine aD (f:=vB) (d:=false) jS rfl _ _ _ rfl w.heap.size 4 V _ 1 Tryz.underlying26 Z ac ad al rfl A q.length q rfl (ah u.out.G.O (ar _ _)) (some ⟨wr.heap.size,0,none⟩) 1 1 [b] rfl rfl (RG.one _ _ _ _ rfl) av.out a0.out a1.out ?_;intro v1 w1 l hg;obtain⟨a5,c1,rfl⟩:=bT l;obtain⟨t,E⟩:=ap.out w1 _ l hg;have H:=t.out.cell 2 _ rfl;have a6:w1.frozen? ⟨k,2,none⟩=false:=frozen_of_row _ _ _ _ _ t.out;clear l hg)
     all_goals exact⟨⟨i+1,_,by omega,by go_num,by show BG _ _ _ _ _ _ _;rw[bd.out];exact E.out⟩,by simp[intOf];omega⟩
    |false=>
     by_cases cb:d<=4
     ·clear K a4 a2;go_wp2_with(at_builtin;refine aD (f:=vB) (d:=false) jS rfl _ _ _ rfl w.heap.size 4 V _ 1 Tryz.underlying26 Z ac ad al rfl A q.length q rfl (ah u.out.G.O (ar _ _)) (some ⟨wr.heap.size,0,none⟩) 1 1 [b] rfl rfl (RG.one _ _ _ _ rfl) av.out a0.out a1.out ?_;intro v1 w1 l hg;obtain⟨a5,c1,rfl⟩:=bT l;obtain⟨t,E⟩:=ap.out w1 _ l hg;have H:=t.out.cell 2 _ rfl;have a6:w1.frozen? ⟨k,2,none⟩=false:=frozen_of_row _ _ _ _ _ t.out;clear l hg)
      all_goals exact⟨⟨i+1,_,by omega,by go_num,by show BG _ _ _ _ _ _ _;rw[bd.out];exact E.out⟩,by simp[intOf];omega⟩
     ·clear K a2;go_wp2_with(at_builtin;refine aD (f:=vB) (d:=false) jS rfl _ _ _ rfl w.heap.size 4 V _ 1 Tryz.underlying26 Z ac ad al rfl A q.length q rfl (ah u.out.G.O (ar _ _)) (some ⟨wr.heap.size,0,none⟩) 1 1 [b] rfl rfl (RG.one _ _ _ _ rfl) av.out a0.out a1.out ?_;intro v1 w1 l hg;obtain⟨a5,c1,rfl⟩:=bT l;obtain⟨t,E⟩:=ap.out w1 _ l hg;have H:=t.out.cell 2 _ rfl;have a6:w1.frozen? ⟨k,2,none⟩=false:=frozen_of_row _ _ _ _ _ t.out;clear l hg)
      all_goals exact⟨⟨i+1,_,by omega,by go_num,by show BG _ _ _ _ _ _ _;rw[bd.out];exact E.out⟩,by simp[intOf];omega⟩
   ·cases c with
    |true=>
     have bf:=bq.out;simp only[if_true]at bf;have cb:¬d<=4:=oO;have hb:b=false:=by
      have B:=O.out;rw[if_neg K]at B;rw[B];rfl
     subst hb;clear O K bf a2;go_wp2_with(at_builtin;refine aD (f:=vB) (d:=false) jS rfl _ _ _ rfl w.heap.size 4 V _ 1 Tryz.underlying26 Z ac ad al rfl A q.length q rfl (ah u.out.G.O (ar _ _)) (some ⟨wr.heap.size,0,none⟩) 1 1 [false] rfl rfl (RG.one _ _ _ _ rfl) av.out a0.out a1.out ?_;intro v1 w1 l hg;obtain⟨a5,c1,rfl⟩:=bT l;obtain⟨t,E⟩:=ap.out w1 _ l hg;have H:=t.out.cell 2 _ rfl;have a6:w1.frozen? ⟨k,2,none⟩=false:=frozen_of_row _ _ _ _ _ t.out;clear l hg)
     all_goals exact⟨⟨i+1,_,by omega,by go_num,by show BG _ _ _ _ _ _ _;rw[bd.out];exact E.out⟩,by simp[intOf];omega⟩
    |false=>
     have bf:=bq.out;simp only[Bool.false_eq_true,if_false]at bf;have cb:¬d<=4:=oO;have g1:¬d<=6:=oO;have hb:b=AF X Y:=by
      have B:=O.out;rw[if_neg K]at B;rw[B];rfl
     clear O K bf a2;unfold AF at hb;have ck (a:Int):IntKind.i64.wrap (a.tmod 16)=a.tmod 16:=by
      have F:=Int.tmod_lt_of_pos a (show(0:Int)<16 by omega);have z:-16<a.tmod 16:=Int.lt_tmod_of_pos a (show(0:Int)<16 by omega);exact aJ _ oO oO
     have am (a:Int):IntKind.i64.wrap (a.tmod 2)=a.tmod 2:=by
      have F:=Int.tmod_lt_of_pos a (show(0:Int)<2 by omega);have z:-2<a.tmod 2:=Int.lt_tmod_of_pos a (show(0:Int)<2 by omega);exact aJ _ oO oO
     have w1:=ck X;have w2:=ck Y;have f5:=am X;have r:=am Y;clear ck am;generalize b8:X.tmod 16=e1 at*;generalize H:Y.tmod 16=e2 at*;generalize f6:X.tmod 2=e3 at*;generalize f7:Y.tmod 2=e4 at*;cases ed:(e1==0)<;>cases eb:(e2==0)<;>cases ef:(e3==0)<;>cases eh:(e4==0)
     all_goals
      rw[ed,eb,ef,eh]at hb;simp only[Bool.and_true,Bool.and_false,Bool.or_true,Bool.or_false,Bool.true_and,Bool.false_and]at hb;subst hb
      go_wp2_with(first
       |(at_builtin;refine aD (f:=vB) (d:=false) jS rfl _ _ _ rfl w.heap.size 4 V _ 1 Tryz.underlying26 Z ac ad al rfl A q.length q rfl (ah u.out.G.O (ar _ _)) (some ⟨wr.heap.size,0,none⟩) 1 1 [true] rfl rfl (RG.one _ _ _ _ rfl) av.out a0.out a1.out ?_;intro v1 w1 l hg;obtain⟨a5,c1,rfl⟩:=bT l;obtain⟨t,E⟩:=ap.out w1 _ l hg;have H:=t.out.cell 2 _ rfl;have a6:w1.frozen? ⟨k,2,none⟩=false:=frozen_of_row _ _ _ _ _ t.out;clear l hg)
       |(at_builtin;refine aD (f:=vB) (d:=false) jS rfl _ _ _ rfl w.heap.size 4 V _ 1 Tryz.underlying26 Z ac ad al rfl A q.length q rfl (ah u.out.G.O (ar _ _)) (some ⟨wr.heap.size,0,none⟩) 1 1 [false] rfl rfl (RG.one _ _ _ _ rfl) av.out a0.out a1.out ?_;intro v1 w1 l hg;obtain⟨a5,c1,rfl⟩:=bT l;obtain⟨t,E⟩:=ap.out w1 _ l hg;have H:=t.out.cell 2 _ rfl;have a6:w1.frozen? ⟨k,2,none⟩=false:=frozen_of_row _ _ _ _ _ t.out;clear l hg))
      all_goals exact⟨⟨i+1,_,by omega,by go_num,by show BG _ _ _ _ _ _ _;rw[bd.out];exact E.out⟩,by simp[intOf];omega⟩
  ·obtain rfl:N=i:=oO;have ce:Hid ((bk n C c).length=N):=by show _=_;rw[fD,P.out]
   have c6:(bk n C c).take N=bk n C c:=List.take_of_length_le (by rw[ce.out];exact Nat.le_refl _);rw[c6]at u;have J:wr.ownsRow w.heap.size 4 1 A N ((bk n C c).map vB):=by have h:=u.out.G.O;rw[ce.out]at h;exact h
   have c7:Hid (aa wr o #[.int .i64 0,.int .i64 0,.slice none 0 0] 28):=u.out.R;have bi:Hid (aa wr k #[.int .i64 (n:Int),.int .i64 (n:Int),A] 28):=u.out.M;have bx:Hid (Below w.heap.size w wr):=u.out.G.B;obtain⟨g,cap,rfl,-,c8,c9⟩:=RO.bU J (by have:=P.out;have:15* 15<=n* n:=Nat.mul_le_mul bv.1 bv.1;omega);have b1:Hid (k≠g/\o≠g):=by
    show _/\_;have F:Tag wr g 4:=CP J rfl;exact⟨Tag.ne bi.out.tag F oD,Tag.ne c7.out.tag F oD⟩
   have dl:=Lib.hid c9;have dm:=Lib.hid c8;have cq:=bi.out.cell 0 _ rfl;have b8:=bi.out.cell 1 _ rfl;have H:=bi.out.cell 2 _ rfl;clear u J c9 c8 c6;obtain⟨cg,rfl⟩:∃x,x=wr:=⟨_,rfl⟩;go_wp2_with(go_at_call 126;refine(cx.out _).mono ?_;rintro e r ⟨M,rfl,dn,d5,ds⟩;have e9:Hid (aa r M ((jy (m:Int)).map (Value.int .i64)).toArray 47):=d5;have fb:Hid (cg.heap.size<=M):=dn;have bo:Hid (Below cg.heap.size cg r):=ds;clear d5 dn ds cq b8 H)
   have dx:Hid (aa r k #[.int .i64 (n:Int),.int .i64 (n:Int),.slice (some ⟨g,0,none⟩) N cap] 28):=bi.out.below bo.out;have fd:Hid (aa r o #[.int .i64 0,.int .i64 0,.slice none 0 0] 28):=c7.out.below bo.out;have fn:Hid (M≠g):=by show _≠_;have:=dl.out.lt;have:=fb.out;omega
   have dy:Hid (RO r g cap (wrL n (bk n C c) ((bp C m).take 0) (fL.take 0))/\au g r r):=by show _/\_;rw[List.take_zero,iP];exact⟨dl.out.below bo.out,au.refl _ _⟩
   have cr:Hid (∀W,au g r W->(W.cell? ⟨k,0,none⟩=some (.int .i64 (n:Int))/\W.cell? ⟨k,1,none⟩=some (.int .i64 (n:Int))/\W.cell? ⟨k,2,none⟩=some (.slice (some ⟨g,0,none⟩) N cap))):=by
    show∀W,_;intro W D;have z:=D.row dx.out b1.out.1;exact⟨z.cell 0 _ rfl,z.cell 1 _ rfl,z.cell 2 _ rfl⟩
   have cs:Hid (∀W,au g r W->∀j,j<24->W.cell? ⟨M,j,none⟩=some (.int .i64 ((jy (m:Int)).getD j 0))):=by
    show∀W,_;intro W D j G;refine(D.row e9.out fn.out).cell j _ ?_;have fo:j<(jy (m:Int)).length:=G;simp[List.getD,fo]
   go_loopw [14] (λQ wr=>∃j:Nat,j<=6/\Q= .int .i64 j/\Hid (RO wr g cap (wrL n (bk n C c) ((bp C m).take j) (fL.take j))/\au g r wr)) (λQ _=>6-(intOf Q).toNat)
   case atStart=>exact⟨0,Nat.zero_le _,rfl,dy.out⟩
   case round=>
    clear dy;obtain⟨j,G,rfl,J⟩:=hrel;by_cases bb:j<6
    ·obtain⟨p,cv,S,T,fr,fv,g2,g3,g4,g5⟩:=es.out j bb;have d0:=Lib.hid (eu.out j bb);rw[<-cv]at d0;have be:Hid ((wrL n (bk n C c) ((bp C m).take j) (fL.take j)).length=N):=by show _=_;rw[dk,ce.out]
     have d1:Hid (∀W,au g r W->W.cell? ⟨M,j* 2,none⟩=some (.int .i64 ((jy (m:Int)).getD (j* 2) 0))/\W.cell? ⟨M,j* 2+1,none⟩=some (.int .i64 ((jy (m:Int)).getD (j* 2+1) 0))):=λW D=>⟨cs.out W D _ oO,cs.out W D _ oO⟩;generalize(jy (m:Int)).getD (j* 2) 0=X at*;generalize(jy (m:Int)).getD (j* 2+1) 0=Y at*;generalize wrL n (bk n C c) ((bp C m).take j) (fL.take j)=q at*;have f8:IntKind.i64.wrap ((C:Int)+X)=(p.1:Int):=by rw[aJ _ oO oO];exact S
     have d9:IntKind.i64.wrap ((C:Int)+Y)=(p.2:Int):=by rw[aJ _ oO oO];exact T
     have f4:Hid (∀W,au g r W->RO W g cap q->Calls Tryz.prog 107 #[tf n n (some ⟨g,0,none⟩) N cap,.int .i64 (p.1:Int),.int .i64 (p.2:Int),.bool true] W λe w'=>e= .returned (.tuple #[])/\RO w' g cap (q.set (df n p) true)/\au g W w'):=by
      show∀W,_;intro W D ej;refine tv n g cap N (df n p) n p.1 p.2 true q W oO be.out.symm ⟨by omega,by omega⟩ ⟨by omega,by omega⟩ (by unfold df;simp) ?_ ej;rw[be.out,P.out];exact mA fr fv
     have fx:Hid (∀W,au g r W->(W.cell? ⟨k,0,none⟩=some (.int .i64 (n:Int))/\W.cell? ⟨k,1,none⟩=some (.int .i64 (n:Int))/\W.cell? ⟨k,2,none⟩=some (.slice (some ⟨g,0,none⟩) N cap))/\W.cell? ⟨M,j* 2,none⟩=some (.int .i64 X)/\W.cell? ⟨M,j* 2+1,none⟩=some (.int .i64 Y)):=λW D=>⟨cr.out W D,d1.out W D⟩;clear cv S T d1;have g6:(j:Int)<6:=oO;have g8:(j:Int)<12:=oO;have ch:Hid (au g r wr.drew):=J.out.2.trans (au.below (ak (Below.refl _ _)));have f0:Hid (RO wr.drew g cap q):=J.out.1.below (ak (Below.refl _ _));go_wp2;refine yO (λW=>au g r W) [1,2,3,4,5,6,7,8,9,10,11,12,13,14,15,0,16] ch.out ?_
     repeat refine zO fx.out ?_
     refine zZ ?_;refine(f4.out _ ch.out f0.out).mono ?_;rintro e ek ⟨rfl,d2,d3⟩;have f1:=Lib.hid d2;have d4:Hid (au g r ek):=ch.out.trans d3;clear d2 d3;refine⟨_,rfl,d4.out,jO ?_⟩;refine ag ?_;go_wp2;exact⟨⟨j+1,by omega,by go_num,by show RO _ _ _ _/\_;rw[d0.out];exact⟨f1.out,d4.out⟩⟩,by simp[intOf];omega⟩
    ·obtain rfl:j=6:=oO;have f2:Hid (RO wr g cap (fY n C c)):=by show RO _ _ _ _;rw[c2.out];exact J.out.1
     have b2:Hid (au g r wr):=J.out.2;have g7:Hid (aa wr k #[.int .i64 (n:Int),.int .i64 (n:Int),.slice (some ⟨g,0,none⟩) N cap] 28):=b2.out.row dx.out b1.out.1;have a3:Hid (aa wr o #[.int .i64 0,.int .i64 0,.slice none 0 0] 28):=b2.out.row fd.out b1.out.2;obtain⟨cq,b8,H⟩:=cr.out wr b2.out;clear J;obtain⟨U,rfl⟩:∃x,x=wr:=⟨_,rfl⟩;have c0:U.cell? ⟨o,0,none⟩=some (.int .i64 0):=a3.out.cell 0 _ rfl;have c1:U.cell? ⟨o,1,none⟩=some (.int .i64 0):=a3.out.cell 1 _ rfl;have el:U.cell? ⟨o,2,none⟩=some (.slice none 0 0):=a3.out.cell 2 _ rfl;have em:U.frozen? ⟨o,0,none⟩=false:=frozen_of_row _ _ _ _ _ a3.out;have en:U.frozen? ⟨o,1,none⟩=false:=frozen_of_row _ _ _ _ _ a3.out;have eq:U.frozen? ⟨o,2,none⟩=false:=frozen_of_row _ _ _ _ _ a3.out;have O:Hid (Below w.heap.size w U):=(bx.out.trans (bo.out.mono bx.out.size)).trans (b2.out.to dm.out ((bx.out.trans (bo.out.mono bx.out.size)).size));have co:=f3.out;go_wp2;refine bodyPost_ret (v:=tf n n (some ⟨g,0,none⟩) N cap) (by simp[results,Tryz.results106,go_sem,c0,c1,el,em,en,eq]) rfl ⟨g,cap,n,N,rfl,P.out,rfl,dm.out,?_,?_⟩
     ·have ci:g≠o:=b1.out.2.symm;exact((f2.out.bw ⟨o,0,none⟩ _ ci).bw ⟨o,1,none⟩ _ ci).bw ⟨o,2,none⟩ _ ci
     ·exact((O.out.setCell co _).setCell co _).setCell co _
theorem JA {p:Nat->Bool} {j:Nat}:∀{N:Nat},j<N->(∀i,i<j->p i=false)->p j=true->(List.range N).find? p=some j:=by
 intro N e b c;rw[List.find?_eq_some_iff_append];refine⟨c,List.range j,(List.range' (j+1) (N-j-1)),?_,λa d=>by rw[b a (List.mem_range.1 d)];rfl⟩;rw[List.range_eq_range',List.range_eq_range',show N=j+(1+(N-j-1))from by omega,<-List.range'_append,show j+(1+(N-j-1))-j-1=N-j-1 from by omega];simp[List.range'_succ,Nat.add_comm 1]
theorem Ig:(Tryz.prog.info? 30).map (·.zero)=some (some (.agg aI)):=oK
def xN (w:World) (v:Value) (a:List Bool) (c:Option (Nat×Bool)):Prop:=match c with
 |none=>v= .agg aI
 |some p=>∃A N b,N=ao p.1 p.2* ao p.1 p.2/\v= .agg #[.int .i64 (p.1:Int),.bool p.2,.int .i64 ((az a (aq p.1)).length:Int),.int .i64 ((ao p.1 p.2:Nat):Int),.int .i64 ((ao p.1 p.2:Nat):Int),.slice A N b]/\SR vB false w A N b (fw p.1 p.2 (az a (aq p.1)))
def fO (w:World) (l:List UInt8) (r:Option (Nat×Bool)×Int) (e:Ending) (w':World):Prop:=∃v,e= .returned (.tuple #[v,.int .i64 r.2])/\xN w' v (bz l) r.1/\Below w.heap.size w w'
def De (p:Nat×Bool):Prop:=1<=p.1/\p.1<=32/\(p.2=true->p.1<=4)
theorem Jx (c:Bool):∀p∈qm c,De p:=by
 intro p a;unfold qm at a;rw[List.mem_append]at a;rcases a with a|a
 ·obtain⟨i,b,rfl⟩:=List.mem_map.1 a;rw[List.mem_range]at b;exact⟨by show 1<=i+1;omega,by show i+1<=32;omega,λ_=>by show i+1<=4;omega⟩
 ·cases c with
  |true=>rw[if_pos rfl]at a;cases a
  |false=>
   rw[if_neg oD]at a;obtain⟨i,b,rfl⟩:=List.mem_map.1 a;rw[List.mem_range]at b;exact⟨by show 1<=i+4;omega,by show i+4<=32;omega,λh=>by cases h⟩
theorem Iw (c:Bool):(qm c).length<=33:=by cases c<;>decide
theorem oF {a:List Bool} (h:a.length<=1048576) (L:Nat):dr a ((aq L:Nat):Int)=(az a (aq L),0):=by
 have b:=eK L;unfold dr;rw[if_neg oO,if_neg oO];rfl
theorem wR {α:Type} (f:α->Bool) (l:List α) (d:α) (j:Nat) (b:j<l.length) (h:(l.take j).find? f=none):(f (l.getD j d)=true->l.find? f=some (l.getD j d))/\(f (l.getD j d)=false->(l.take (j+1)).find? f=none):=by
 have e:l=l.take j++l.drop j:=(List.take_append_drop j l).symm;have e2:l.drop j=l.getD j d::l.drop (j+1):=by
  rw[List.drop_eq_getElem_cons b];simp[List.getD,b]
 constructor
 ·intro a;rw[e,List.find?_append,h,e2];have e3:(l.take j++l.getD j d::l.drop (j+1)).getD j d=l.getD j d:=by rw[<-e2,<-e]
  rw[e3,List.find?_cons,a];rfl
 ·intro a;rw[List.take_add_one,List.find?_append,h];simp only[List.getD]at a;rw[List.getElem?_eq_getElem b]at a⊢;simp only[Option.getD_some]at a;simp[a]
theorem EX (A:Option Addr) (n i:Nat) (l:List UInt8) (b:Int) (c:Bool) (d:Int) (w:World) (m:4096<n) (x:n<=9223372036854775807):
 Calls Tryz.prog 12 #[.slice A n i,.agg #[.int .i64 b,.bool c,.int .i64 d]] w (fO w l (none,4)):=by
 obtain⟨a,e⟩:∃a,a=(w.alloc (.cells #[.int .i64 b,.bool c,.int .i64 d] 24)).alloc (.cells aI 30):=⟨_,rfl⟩;have p:=Lib.hid e;have q:Hid (Below w.heap.size w a):=by show Below _ _ _;rw[e];exact ae (ar _ _) _
 have g:Hid (aa a w.heap.size #[.int .i64 b,.bool c,.int .i64 d] 24):=by
  show aa _ _ _ _;rw[e];have j:aa (w.alloc (.cells #[.int .i64 b,.bool c,.int .i64 d] 24)) w.heap.size #[.int .i64 b,.bool c,.int .i64 d] 24:=aa.new _ _ _ _ rfl;exact j.below (ar _ _)
 have k:Hid (aa a (w.heap.size+1) aI 30):=by show aa _ _ _ _;rw[e];exact aa.new _ _ _ _ oS
 have r:Hid (w.heap.size<=w.heap.size+1/\w.heap.size+1<a.heap.size/\w.heap.size<=a.heap.size/\a.heap.size=w.heap.size+2):=by show _/\_;rw[e];simp;omega
 have s:Hid (∀W,af a W->W.cell? ⟨w.heap.size,0,none⟩=some (.int .i64 b)/\W.cell? ⟨w.heap.size,1,none⟩=some (.bool c)/\W.cell? ⟨w.heap.size,2,none⟩=some (.int .i64 d)):=λW f=>⟨(g.out.below f).cell 0 _ rfl,(g.out.below f).cell 1 _ rfl,(g.out.below f).cell 2 _ rfl⟩;have t:Hid (∀W,af a W->aa W (w.heap.size+1) aI 30):=λW f=>k.out.below f;have u:Hid (∀W,Below ((((w.alloc (.cells #[.int .i64 b,.bool c,.int .i64 d] 24)).alloc (.cells aI 30)).alloc (bM b c))).heap.size ((((w.alloc (.cells #[.int .i64 b,.bool c,.int .i64 d] 24)).alloc (.cells aI 30)).alloc (bM b c))) W->Below a.heap.size a W):=by show∀W,_->_;rw[<-e];exactλW h=>cN h
 clear e;have o:(4096:Int)<(n:Int):=oO;go_enter Tryz.func12,Tryz.ntmps12;go_wp2;refine bodyPost_ret (v:= .tuple #[.agg aI,.int .i64 4]) (by simp[results,Tryz.results12,go_sem]) rfl ⟨.agg aI,rfl,rfl,?_⟩;exact ae (ar _ _) _
theorem F3 (A:Option Addr) (a:Nat) (l:List UInt8) (b:Int) (c:Bool) (d:Int) (w:World):
 Calls Tryz.prog 12 #[.slice A 0 a,.agg #[.int .i64 b,.bool c,.int .i64 d]] w (fO w l (none,5)):=by
 go_enter Tryz.func12,Tryz.ntmps12;go_wp2;refine bodyPost_ret (v:= .tuple #[.agg aI,.int .i64 5]) (by simp[results,Tryz.results12,go_sem]) rfl ⟨.agg aI,rfl,rfl,?_⟩;exact ae (ar _ _) _
theorem Du (A:Option Addr) (n u:Nat) (l:List UInt8) (b:Int) (d:Bool) (g:Int) (w:World) (P:n<=4096) (Q:1<=n) (S:¬b=0) (r:eB b d=false) (X:n<=9223372036854775807):
 Calls Tryz.prog 12 #[.slice A n u,.agg #[.int .i64 b,.bool d,.int .i64 g]] w (fO w l (none,14)):=by
 obtain⟨a,i⟩:∃a,a=(w.alloc (.cells #[.int .i64 b,.bool d,.int .i64 g] 24)).alloc (.cells aI 30):=⟨_,rfl⟩;have K:=Lib.hid i;have L:Hid (Below w.heap.size w a):=by show Below _ _ _;rw[i];exact ae (ar _ _) _
 have q:Hid (aa a w.heap.size #[.int .i64 b,.bool d,.int .i64 g] 24):=by
  show aa _ _ _ _;rw[i];have x:aa (w.alloc (.cells #[.int .i64 b,.bool d,.int .i64 g] 24)) w.heap.size #[.int .i64 b,.bool d,.int .i64 g] 24:=aa.new _ _ _ _ rfl;exact x.below (ar _ _)
 have M:Hid (aa a (w.heap.size+1) aI 30):=by show aa _ _ _ _;rw[i];exact aa.new _ _ _ _ oS
 have j:Hid (w.heap.size<=w.heap.size+1/\w.heap.size+1<a.heap.size/\w.heap.size<=a.heap.size/\a.heap.size=w.heap.size+2):=by show _/\_;rw[i];simp;omega
 have s:Hid (∀W,af a W->W.cell? ⟨w.heap.size,0,none⟩=some (.int .i64 b)/\W.cell? ⟨w.heap.size,1,none⟩=some (.bool d)/\W.cell? ⟨w.heap.size,2,none⟩=some (.int .i64 g)):=λW k=>⟨(q.out.below k).cell 0 _ rfl,(q.out.below k).cell 1 _ rfl,(q.out.below k).cell 2 _ rfl⟩;have f:Hid (∀W,af a W->aa W (w.heap.size+1) aI 30):=λW k=>M.out.below k;have N:Hid (∀W,Below ((((w.alloc (.cells #[.int .i64 b,.bool d,.int .i64 g] 24)).alloc (.cells aI 30)).alloc (bM b d))).heap.size ((((w.alloc (.cells #[.int .i64 b,.bool d,.int .i64 g] 24)).alloc (.cells aI 30)).alloc (bM b d))) W->Below a.heap.size a W):=by show∀W,_->_;rw[<-i];exactλW h=>cN h
 clear i;obtain⟨m,o,p⟩:=s.out a (Below.refl _ _);rw[K.out]at m o p;have T:¬(4096:Int)<(n:Int):=oO;have U:((n:Int)==0)=false:=by rw[beq_eq_false_iff_ne];omega
 have V:¬n=0:=oO;have O:Hid (∀W,Calls Tryz.prog 29 #[cy b d] W λe w'=>e= .returned (.bool false)/\Below W.heap.size W w'):=λW=>by rw[<-r];exact gw b d W
 clear r;go_enter Tryz.func12,Tryz.ntmps12;go_wp2_with(go_at_call 29;refine(O.out _).mono ?_;rintro e w1 ⟨rfl,t⟩;have c:Hid (Below a.heap.size a w1):=N.out _ t;clear t m o p;obtain⟨m,o,p⟩:=s.out w1 c.out;have c0:(w1).cell? ⟨w.heap.size+1,0,none⟩=some (.int .i64 0):=(f.out w1 c.out).cell 0 _ rfl;have c1:(w1).cell? ⟨w.heap.size+1,1,none⟩=some (.bool false):=(f.out w1 c.out).cell 1 _ rfl;have y:(w1).cell? ⟨w.heap.size+1,2,none⟩=some (.int .i64 0):=(f.out w1 c.out).cell 2 _ rfl;have z:(w1).cell? ⟨w.heap.size+1,3,none⟩=some (.int .i64 0):=(f.out w1 c.out).cell 3 _ rfl;have B:(w1).cell? ⟨w.heap.size+1,4,none⟩=some (.int .i64 0):=(f.out w1 c.out).cell 4 _ rfl;have C:(w1).cell? ⟨w.heap.size+1,5,none⟩=some (.slice none 0 0):=(f.out w1 c.out).cell 5 _ rfl;have D:(w1).frozen? ⟨w.heap.size+1,0,none⟩=false:=frozen_of_row _ _ _ _ _ ((f.out w1 c.out));have E:(w1).frozen? ⟨w.heap.size+1,1,none⟩=false:=frozen_of_row _ _ _ _ _ ((f.out w1 c.out));have F:(w1).frozen? ⟨w.heap.size+1,2,none⟩=false:=frozen_of_row _ _ _ _ _ ((f.out w1 c.out));have G:(w1).frozen? ⟨w.heap.size+1,3,none⟩=false:=frozen_of_row _ _ _ _ _ ((f.out w1 c.out));have H:(w1).frozen? ⟨w.heap.size+1,4,none⟩=false:=frozen_of_row _ _ _ _ _ ((f.out w1 c.out));have J:(w1).frozen? ⟨w.heap.size+1,5,none⟩=false:=frozen_of_row _ _ _ _ _ ((f.out w1 c.out)))
 refine bodyPost_ret (v:= .tuple #[.agg aI,.int .i64 14]) (by simp[results,Tryz.results12,go_sem,c0,c1,y,z,B,C,D,E,F,G,H,J]) rfl ⟨.agg aI,rfl,rfl,?_⟩;exact((((((L.out.trans (c.out.mono j.out.2.2.1)).setCell j.out.1 _).setCell j.out.1 _).setCell j.out.1 _).setCell j.out.1 _).setCell j.out.1 _).setCell j.out.1 _
theorem DR (A:Option Addr) (n u:Nat) (l:List UInt8) (b:Int) (d:Bool) (g:Int) (w:World) (P:n<=4096) (Q:1<=n) (S:¬b=0) (r:eB b d=true) (T:g<5) (Y:n<=9223372036854775807):
 Calls Tryz.prog 12 #[.slice A n u,.agg #[.int .i64 b,.bool d,.int .i64 g]] w (fO w l (none,3)):=by
 obtain⟨a,i⟩:∃a,a=(w.alloc (.cells #[.int .i64 b,.bool d,.int .i64 g] 24)).alloc (.cells aI 30):=⟨_,rfl⟩;have K:=Lib.hid i;have L:Hid (Below w.heap.size w a):=by show Below _ _ _;rw[i];exact ae (ar _ _) _
 have q:Hid (aa a w.heap.size #[.int .i64 b,.bool d,.int .i64 g] 24):=by
  show aa _ _ _ _;rw[i];have x:aa (w.alloc (.cells #[.int .i64 b,.bool d,.int .i64 g] 24)) w.heap.size #[.int .i64 b,.bool d,.int .i64 g] 24:=aa.new _ _ _ _ rfl;exact x.below (ar _ _)
 have M:Hid (aa a (w.heap.size+1) aI 30):=by show aa _ _ _ _;rw[i];exact aa.new _ _ _ _ oS
 have j:Hid (w.heap.size<=w.heap.size+1/\w.heap.size+1<a.heap.size/\w.heap.size<=a.heap.size/\a.heap.size=w.heap.size+2):=by show _/\_;rw[i];simp;omega
 have s:Hid (∀W,af a W->W.cell? ⟨w.heap.size,0,none⟩=some (.int .i64 b)/\W.cell? ⟨w.heap.size,1,none⟩=some (.bool d)/\W.cell? ⟨w.heap.size,2,none⟩=some (.int .i64 g)):=λW k=>⟨(q.out.below k).cell 0 _ rfl,(q.out.below k).cell 1 _ rfl,(q.out.below k).cell 2 _ rfl⟩;have f:Hid (∀W,af a W->aa W (w.heap.size+1) aI 30):=λW k=>M.out.below k;have N:Hid (∀W,Below ((((w.alloc (.cells #[.int .i64 b,.bool d,.int .i64 g] 24)).alloc (.cells aI 30)).alloc (bM b d))).heap.size ((((w.alloc (.cells #[.int .i64 b,.bool d,.int .i64 g] 24)).alloc (.cells aI 30)).alloc (bM b d))) W->Below a.heap.size a W):=by show∀W,_->_;rw[<-i];exactλW h=>cN h
 clear i;obtain⟨m,o,p⟩:=s.out a (Below.refl _ _);rw[K.out]at m o p;have U:¬(4096:Int)<(n:Int):=oO;have V:((n:Int)==0)=false:=by rw[beq_eq_false_iff_ne];omega
 have X:¬n=0:=oO;have O:Hid (∀W,Calls Tryz.prog 29 #[cy b d] W λe w'=>e= .returned (.bool true)/\Below W.heap.size W w'):=λW=>by rw[<-r];exact gw b d W
 clear r;go_enter Tryz.func12,Tryz.ntmps12;go_wp2_with(go_at_call 29;refine(O.out _).mono ?_;rintro e w1 ⟨rfl,t⟩;have c:Hid (Below a.heap.size a w1):=N.out _ t;clear t m o p;obtain⟨m,o,p⟩:=s.out w1 c.out;have c0:(w1).cell? ⟨w.heap.size+1,0,none⟩=some (.int .i64 0):=(f.out w1 c.out).cell 0 _ rfl;have c1:(w1).cell? ⟨w.heap.size+1,1,none⟩=some (.bool false):=(f.out w1 c.out).cell 1 _ rfl;have y:(w1).cell? ⟨w.heap.size+1,2,none⟩=some (.int .i64 0):=(f.out w1 c.out).cell 2 _ rfl;have z:(w1).cell? ⟨w.heap.size+1,3,none⟩=some (.int .i64 0):=(f.out w1 c.out).cell 3 _ rfl;have B:(w1).cell? ⟨w.heap.size+1,4,none⟩=some (.int .i64 0):=(f.out w1 c.out).cell 4 _ rfl;have C:(w1).cell? ⟨w.heap.size+1,5,none⟩=some (.slice none 0 0):=(f.out w1 c.out).cell 5 _ rfl;have D:(w1).frozen? ⟨w.heap.size+1,0,none⟩=false:=frozen_of_row _ _ _ _ _ ((f.out w1 c.out));have E:(w1).frozen? ⟨w.heap.size+1,1,none⟩=false:=frozen_of_row _ _ _ _ _ ((f.out w1 c.out));have F:(w1).frozen? ⟨w.heap.size+1,2,none⟩=false:=frozen_of_row _ _ _ _ _ ((f.out w1 c.out));have G:(w1).frozen? ⟨w.heap.size+1,3,none⟩=false:=frozen_of_row _ _ _ _ _ ((f.out w1 c.out));have H:(w1).frozen? ⟨w.heap.size+1,4,none⟩=false:=frozen_of_row _ _ _ _ _ ((f.out w1 c.out));have J:(w1).frozen? ⟨w.heap.size+1,5,none⟩=false:=frozen_of_row _ _ _ _ _ ((f.out w1 c.out)))
 refine bodyPost_ret (v:= .tuple #[.agg aI,.int .i64 3]) (by simp[results,Tryz.results12,go_sem,c0,c1,y,z,B,C,D,E,F,G,H,J]) rfl ⟨.agg aI,rfl,rfl,?_⟩;exact((((((L.out.trans (c.out.mono j.out.2.2.1)).setCell j.out.1 _).setCell j.out.1 _).setCell j.out.1 _).setCell j.out.1 _).setCell j.out.1 _).setCell j.out.1 _
theorem DD (A:Option Addr) (n u:Nat) (l:List UInt8) (b:Int) (d:Bool) (g:Int) (w:World) (P:n<=4096) (Q:1<=n) (S:¬b=0) (r:eB b d=true) (T:¬g<5) (U:90<g) (Z:n<=9223372036854775807):
 Calls Tryz.prog 12 #[.slice A n u,.agg #[.int .i64 b,.bool d,.int .i64 g]] w (fO w l (none,3)):=by
 obtain⟨a,i⟩:∃a,a=(w.alloc (.cells #[.int .i64 b,.bool d,.int .i64 g] 24)).alloc (.cells aI 30):=⟨_,rfl⟩;have K:=Lib.hid i;have L:Hid (Below w.heap.size w a):=by show Below _ _ _;rw[i];exact ae (ar _ _) _
 have q:Hid (aa a w.heap.size #[.int .i64 b,.bool d,.int .i64 g] 24):=by
  show aa _ _ _ _;rw[i];have x:aa (w.alloc (.cells #[.int .i64 b,.bool d,.int .i64 g] 24)) w.heap.size #[.int .i64 b,.bool d,.int .i64 g] 24:=aa.new _ _ _ _ rfl;exact x.below (ar _ _)
 have M:Hid (aa a (w.heap.size+1) aI 30):=by show aa _ _ _ _;rw[i];exact aa.new _ _ _ _ oS
 have j:Hid (w.heap.size<=w.heap.size+1/\w.heap.size+1<a.heap.size/\w.heap.size<=a.heap.size/\a.heap.size=w.heap.size+2):=by show _/\_;rw[i];simp;omega
 have s:Hid (∀W,af a W->W.cell? ⟨w.heap.size,0,none⟩=some (.int .i64 b)/\W.cell? ⟨w.heap.size,1,none⟩=some (.bool d)/\W.cell? ⟨w.heap.size,2,none⟩=some (.int .i64 g)):=λW k=>⟨(q.out.below k).cell 0 _ rfl,(q.out.below k).cell 1 _ rfl,(q.out.below k).cell 2 _ rfl⟩;have f:Hid (∀W,af a W->aa W (w.heap.size+1) aI 30):=λW k=>M.out.below k;have N:Hid (∀W,Below ((((w.alloc (.cells #[.int .i64 b,.bool d,.int .i64 g] 24)).alloc (.cells aI 30)).alloc (bM b d))).heap.size ((((w.alloc (.cells #[.int .i64 b,.bool d,.int .i64 g] 24)).alloc (.cells aI 30)).alloc (bM b d))) W->Below a.heap.size a W):=by show∀W,_->_;rw[<-i];exactλW h=>cN h
 clear i;obtain⟨m,o,p⟩:=s.out a (Below.refl _ _);rw[K.out]at m o p;have V:¬(4096:Int)<(n:Int):=oO;have X:((n:Int)==0)=false:=by rw[beq_eq_false_iff_ne];omega
 have Y:¬n=0:=oO;have O:Hid (∀W,Calls Tryz.prog 29 #[cy b d] W λe w'=>e= .returned (.bool true)/\Below W.heap.size W w'):=λW=>by rw[<-r];exact gw b d W
 clear r;go_enter Tryz.func12,Tryz.ntmps12;go_wp2_with(go_at_call 29;refine(O.out _).mono ?_;rintro e w1 ⟨rfl,t⟩;have c:Hid (Below a.heap.size a w1):=N.out _ t;clear t m o p;obtain⟨m,o,p⟩:=s.out w1 c.out;have c0:(w1).cell? ⟨w.heap.size+1,0,none⟩=some (.int .i64 0):=(f.out w1 c.out).cell 0 _ rfl;have c1:(w1).cell? ⟨w.heap.size+1,1,none⟩=some (.bool false):=(f.out w1 c.out).cell 1 _ rfl;have y:(w1).cell? ⟨w.heap.size+1,2,none⟩=some (.int .i64 0):=(f.out w1 c.out).cell 2 _ rfl;have z:(w1).cell? ⟨w.heap.size+1,3,none⟩=some (.int .i64 0):=(f.out w1 c.out).cell 3 _ rfl;have B:(w1).cell? ⟨w.heap.size+1,4,none⟩=some (.int .i64 0):=(f.out w1 c.out).cell 4 _ rfl;have C:(w1).cell? ⟨w.heap.size+1,5,none⟩=some (.slice none 0 0):=(f.out w1 c.out).cell 5 _ rfl;have D:(w1).frozen? ⟨w.heap.size+1,0,none⟩=false:=frozen_of_row _ _ _ _ _ ((f.out w1 c.out));have E:(w1).frozen? ⟨w.heap.size+1,1,none⟩=false:=frozen_of_row _ _ _ _ _ ((f.out w1 c.out));have F:(w1).frozen? ⟨w.heap.size+1,2,none⟩=false:=frozen_of_row _ _ _ _ _ ((f.out w1 c.out));have G:(w1).frozen? ⟨w.heap.size+1,3,none⟩=false:=frozen_of_row _ _ _ _ _ ((f.out w1 c.out));have H:(w1).frozen? ⟨w.heap.size+1,4,none⟩=false:=frozen_of_row _ _ _ _ _ ((f.out w1 c.out));have J:(w1).frozen? ⟨w.heap.size+1,5,none⟩=false:=frozen_of_row _ _ _ _ _ ((f.out w1 c.out)))
 refine bodyPost_ret (v:= .tuple #[.agg aI,.int .i64 3]) (by simp[results,Tryz.results12,go_sem,c0,c1,y,z,B,C,D,E,F,G,H,J]) rfl ⟨.agg aI,rfl,rfl,?_⟩;exact((((((L.out.trans (c.out.mono j.out.2.2.1)).setCell j.out.1 _).setCell j.out.1 _).setCell j.out.1 _).setCell j.out.1 _).setCell j.out.1 _).setCell j.out.1 _
theorem Dz (A:Option Addr) (n g:Nat) (l:List UInt8) (b:Bool) (c:Int) (w:World) (r:n<=4096) (s:1<=n) (t:c<5) (E:n<=9223372036854775807):
 Calls Tryz.prog 12 #[.slice A n g,.agg #[.int .i64 0,.bool b,.int .i64 c]] w (fO w l (none,3)):=by
 obtain⟨a,d⟩:∃a,a=(w.alloc (.cells #[.int .i64 0,.bool b,.int .i64 c] 24)).alloc (.cells aI 30):=⟨_,rfl⟩;have o:=Lib.hid d;have z:Hid (Below w.heap.size w a):=by show Below _ _ _;rw[d];exact ae (ar _ _) _
 have f:Hid (aa a w.heap.size #[.int .i64 0,.bool b,.int .i64 c] 24):=by
  show aa _ _ _ _;rw[d];have i:aa (w.alloc (.cells #[.int .i64 0,.bool b,.int .i64 c] 24)) w.heap.size #[.int .i64 0,.bool b,.int .i64 c] 24:=aa.new _ _ _ _ rfl;exact i.below (ar _ _)
 have p:Hid (aa a (w.heap.size+1) aI 30):=by show aa _ _ _ _;rw[d];exact aa.new _ _ _ _ oS
 have B:Hid (w.heap.size<=w.heap.size+1/\w.heap.size+1<a.heap.size/\w.heap.size<=a.heap.size/\a.heap.size=w.heap.size+2):=by show _/\_;rw[d];simp;omega
 have q:Hid (∀W,af a W->W.cell? ⟨w.heap.size,0,none⟩=some (.int .i64 0)/\W.cell? ⟨w.heap.size,1,none⟩=some (.bool b)/\W.cell? ⟨w.heap.size,2,none⟩=some (.int .i64 c)):=λW e=>⟨(f.out.below e).cell 0 _ rfl,(f.out.below e).cell 1 _ rfl,(f.out.below e).cell 2 _ rfl⟩;have C:Hid (∀W,af a W->aa W (w.heap.size+1) aI 30):=λW e=>p.out.below e;have D:Hid (∀W,Below ((((w.alloc (.cells #[.int .i64 0,.bool b,.int .i64 c] 24)).alloc (.cells aI 30)).alloc (bM 0 b))).heap.size ((((w.alloc (.cells #[.int .i64 0,.bool b,.int .i64 c] 24)).alloc (.cells aI 30)).alloc (bM 0 b))) W->Below a.heap.size a W):=by show∀W,_->_;rw[<-d];exactλW h=>cN h
 clear d;obtain⟨j,k,m⟩:=q.out a (Below.refl _ _);rw[o.out]at j k m;have u:¬(4096:Int)<(n:Int):=oO;have x:((n:Int)==0)=false:=by rw[beq_eq_false_iff_ne];omega
 have y:¬n=0:=oO;go_enter Tryz.func12,Tryz.ntmps12;go_wp2;refine bodyPost_ret (v:= .tuple #[.agg aI,.int .i64 3]) (by simp[results,Tryz.results12,go_sem]) rfl ⟨.agg aI,rfl,rfl,?_⟩;exact ae (ae (ar _ _) _) _
theorem D4 (A:Option Addr) (n g:Nat) (l:List UInt8) (b:Bool) (c:Int) (w:World) (r:n<=4096) (s:1<=n) (t:¬c<5) (u:90<c) (F:n<=9223372036854775807):
 Calls Tryz.prog 12 #[.slice A n g,.agg #[.int .i64 0,.bool b,.int .i64 c]] w (fO w l (none,3)):=by
 obtain⟨a,d⟩:∃a,a=(w.alloc (.cells #[.int .i64 0,.bool b,.int .i64 c] 24)).alloc (.cells aI 30):=⟨_,rfl⟩;have o:=Lib.hid d;have B:Hid (Below w.heap.size w a):=by show Below _ _ _;rw[d];exact ae (ar _ _) _
 have f:Hid (aa a w.heap.size #[.int .i64 0,.bool b,.int .i64 c] 24):=by
  show aa _ _ _ _;rw[d];have i:aa (w.alloc (.cells #[.int .i64 0,.bool b,.int .i64 c] 24)) w.heap.size #[.int .i64 0,.bool b,.int .i64 c] 24:=aa.new _ _ _ _ rfl;exact i.below (ar _ _)
 have p:Hid (aa a (w.heap.size+1) aI 30):=by show aa _ _ _ _;rw[d];exact aa.new _ _ _ _ oS
 have C:Hid (w.heap.size<=w.heap.size+1/\w.heap.size+1<a.heap.size/\w.heap.size<=a.heap.size/\a.heap.size=w.heap.size+2):=by show _/\_;rw[d];simp;omega
 have q:Hid (∀W,af a W->W.cell? ⟨w.heap.size,0,none⟩=some (.int .i64 0)/\W.cell? ⟨w.heap.size,1,none⟩=some (.bool b)/\W.cell? ⟨w.heap.size,2,none⟩=some (.int .i64 c)):=λW e=>⟨(f.out.below e).cell 0 _ rfl,(f.out.below e).cell 1 _ rfl,(f.out.below e).cell 2 _ rfl⟩;have D:Hid (∀W,af a W->aa W (w.heap.size+1) aI 30):=λW e=>p.out.below e;have E:Hid (∀W,Below ((((w.alloc (.cells #[.int .i64 0,.bool b,.int .i64 c] 24)).alloc (.cells aI 30)).alloc (bM 0 b))).heap.size ((((w.alloc (.cells #[.int .i64 0,.bool b,.int .i64 c] 24)).alloc (.cells aI 30)).alloc (bM 0 b))) W->Below a.heap.size a W):=by show∀W,_->_;rw[<-d];exactλW h=>cN h
 clear d;obtain⟨j,k,m⟩:=q.out a (Below.refl _ _);rw[o.out]at j k m;have x:¬(4096:Int)<(n:Int):=oO;have y:((n:Int)==0)=false:=by rw[beq_eq_false_iff_ne];omega
 have z:¬n=0:=oO;go_enter Tryz.func12,Tryz.ntmps12;go_wp2;refine bodyPost_ret (v:= .tuple #[.agg aI,.int .i64 3]) (by simp[results,Tryz.results12,go_sem]) rfl ⟨.agg aI,rfl,rfl,?_⟩;exact ae (ae (ar _ _) _) _
theorem qa {l:List UInt8} {C:Nat->Nat->Nat} (hl:l.length<=2078) (d:1<=l.length) (h:cj (bA l) C):1<=(bz l).length:=by
 have hs:(bA l).size<=4096:=by rw[iS];omega
 rw[lh oO h,qj hs h];obtain⟨c,-,a,b,-⟩:=h.xL hs 0 0 (by rw[iS];omega) oO;have:=a.size_pos;rw[<-b];unfold an.aG;omega
theorem fW {a:List Bool} {b L:Nat} {c:Bool} (h:dE a b (L,c)=true) (d:1<=L) (e:L<=32) (f:1<=(az a (aq L)).length):(az a (aq L)).length<=eM c/\(az a (aq L)).length<aQ L c:=by
 unfold dE nG at h;simp only[Bool.and_eq_true,decide_eq_true_eq]at h;refine⟨h.1,?_⟩;have g:1<=aq L:=by rcases eK L with h|h|h|h<;>omega
 apply Classical.byContradiction;intro hn;have:aq L* aQ L c<=aq L* (az a (aq L)).length:=Nat.mul_le_mul_left _ oO;omega
theorem BC (A:Option Addr) (n a6:Nat) (l:List UInt8) (f:Bool) (b:Nat) (w:World) (hs:SR vU 0 w A n a6 l) (n1:1<=n) (n2:n<=60) (p1:5<=b) (p2:b<=90):
 Calls Tryz.prog 12 #[.slice A n a6,.agg #[.int .i64 0,.bool f,.int .i64 (b:Int)]] w λe w'=>(∃C,cj (bA l) C)/\∀R,(∀p,cA (bz l) b 0 f=some p->R=(some p,0))->(cA (bz l) b 0 f=none->R=(none,16))->fO w l R e w':=by
 obtain⟨g,G⟩:∃g,g=(((w.alloc (.cells #[.int .i64 0,.bool f,.int .i64 (b:Int)] 24)).alloc (.cells aI 30)).alloc (bM 0 f)):=⟨_,rfl⟩;have ca:Hid (Below w.heap.size w g):=by show Below _ _ _;rw[G];exact ae (ae (ar _ _) _) _
 have ey:Hid (aa g w.heap.size #[.int .i64 0,.bool f,.int .i64 (b:Int)] 24):=by
  show aa _ _ _ _;rw[G];have r:aa (w.alloc (.cells #[.int .i64 0,.bool f,.int .i64 (b:Int)] 24)) w.heap.size #[.int .i64 0,.bool f,.int .i64 (b:Int)] 24:=aa.new _ _ _ _ rfl;exact(r.below (ar _ _)).below (ar _ _)
 have ez:Hid (aa g (w.heap.size+1) aI 30):=by
  show aa _ _ _ _;rw[G];have r:aa ((w.alloc (.cells #[.int .i64 0,.bool f,.int .i64 (b:Int)] 24)).alloc (.cells aI 30)) (w.heap.size+1) aI 30:=aa.new _ _ _ _ oS;exact r.below (ar _ _)
 have e0:Hid (aa g (w.heap.size+1+1) #[.int .i64 0,.bool f] 60):=by show aa _ _ _ _;rw[G];exact aa.new _ _ _ _ oS
 have s:Hid (w.heap.size<=w.heap.size+1/\w.heap.size+1<g.heap.size/\w.heap.size<=g.heap.size):=by show _/\_;rw[G];simp;omega
 have V:Hid (∀W,af g W->(W.cell? ⟨w.heap.size,0,none⟩=some (.int .i64 0)/\W.cell? ⟨w.heap.size,1,none⟩=some (.bool f)/\W.cell? ⟨w.heap.size,2,none⟩=some (.int .i64 (b:Int)))/\W.cell? ⟨w.heap.size+1+1,0,none⟩=some (.int .i64 0)/\W.cell? ⟨w.heap.size+1+1,1,none⟩=some (.bool f)):=by
  show∀W,_;intro W P;have r:=ey.out.below P;have J:=e0.out.below P;exact⟨⟨r.cell 0 _ rfl,r.cell 1 _ rfl,r.cell 2 _ rfl⟩,J.cell 0 _ rfl,J.cell 1 _ rfl⟩
 have i:Hid (∀W,af g W->aa W (w.heap.size+1) aI 30):=λW P=>ez.out.below P;have e9:Hid (∀W,Below (((w.alloc (.cells #[.int .i64 0,.bool f,.int .i64 (b:Int)] 24)).alloc (.cells aI 30)).alloc (bM 0 f)).heap.size (((w.alloc (.cells #[.int .i64 0,.bool f,.int .i64 (b:Int)] 24)).alloc (.cells aI 30)).alloc (bM 0 f)) W->Below g.heap.size g W):=by show∀W,_->_;rw[<-G];exactλW h=>h
 have c5:=Lib.hid G;have go:Hid (n=l.length):=hs.hn;have fb:Hid (∀W,af w W->Calls Tryz.prog 30 #[.slice A n a6] W λe w'=>(∃C,cj (bA l) C)/\RT vB false W (bz l,0) e w'):=by
  show∀W,_->_;intro W P;refine(tI A n a6 l W (hs.below P) oO).mono ?_;rintro e w' ⟨C,E,eh⟩;refine⟨⟨C,E⟩,?_⟩;rw[lh (by rw[<-hs.hn];omega) E];exact eh
 have fd:Hid ((∃C,cj (bA l) C)->(bz l).length<=501/\1<=(bz l).length/\∀L,aA (2^aq L) (az (bz l) (aq L))/\(az (bz l) (aq L)).length<=501/\1<=(az (bz l) (aq L)).length):=by
  show _->_;rintro⟨C,E⟩;have r:=mZ (l:=l) (by rw[<-hs.hn];omega) E;rw[<-hs.hn]at r;have J:=qa (by rw[<-hs.hn];omega) (by rw[<-hs.hn];exact n1) E;refine⟨by omega,J,λL=>?_⟩;obtain⟨t,gq,ej,gs⟩:=lE (l:=l) (by rw[<-hs.hn];omega) E L rfl;refine⟨t,by omega,?_⟩;rcases Nat.eq_zero_or_pos (az (bz l) (aq L)).length with ad|ad
  ·rw[ad]at ej;omega
  ·exact ad
 have gt:¬(4096:Int)<(n:Int):=oO;have gx:((n:Int)==0)=false:=by rw[beq_eq_false_iff_ne];omega
 have gy:¬n=0:=oO;have gL:¬(b:Int)<5:=oO;have gN:¬(90:Int)<(b:Int):=oO;have gX:decide (b<5)=false:=by simp;omega
 have gY:decide (90<b)=false:=by simp;omega
 have ib:n<=4096:=oO;obtain⟨q,a5⟩:∃q,q=qm f:=⟨_,rfl⟩;have c6:Hid (∀a,cA a b 0 f=q.find? (dE a b)):=by show∀a,_;intro a;unfold cA om;rw[a5];rfl
 have fn:Hid (∀p∈q,De p):=by
  show∀p∈_,_;rw[a5];exact Jx f
 have fo:Hid (q.length<=33):=by show _<=_;rw[a5];exact Iw f
 have c7:=Lib.hid a5;obtain⟨⟨x,y,B⟩,D,t⟩:=V.out g (Below.refl _ _);rw[c5.out]at x y B D t;have g0:=Lib.hid hs;clear hs a5 n1 G;have fr:Hid (af w (((w.alloc (.cells #[.int .i64 0,.bool f,.int .i64 (b:Int)] 24)).alloc (.cells aI 30)).alloc (bM 0 f))):=by show Below _ _ _;rw[<-c5.out];exact ca.out
 have fv:Hid (∀W,Calls Tryz.prog 31 #[.bool f] W λe w'=>∃bi F cv,e= .returned (.slice bi F cv)/\Hid (q.length=F)/\Hid (KC w' bi q)/\Below W.heap.size W w'):=λW=>by
  refine(BN f W).mono ?_;rintro e w' ⟨v,rfl,⟨A',c',rfl,-,-,h⟩,hb⟩;rw[<-c7.out]at h;exact⟨A',q.length,c',by rw[c7.out],rfl,h,hb⟩
 go_enter Tryz.func12,Tryz.ntmps12
 go_wp2_with(first
  |(go_at_call 30;refine(fb.out _ fr.out).mono ?_;rintro e w2 ⟨E,g1,rfl,c8,H⟩;obtain⟨g2,a7,g3,rfl,fx⟩:=c8.parts;have HC:=Lib.hid (fd.out E);have c9:=Lib.hid E;have f0:=Lib.hid fx;have cb:Hid (Below g.heap.size g w2):=e9.out _ H;clear E c8 H x y B D t;obtain⟨⟨x,y,B⟩,D,t⟩:=V.out _ cb.out;obtain⟨⟨ek,el,em⟩,-,-⟩:=V.out _ (ae cb.out (.cells #[.int .i64 0,.bool f] 60)))
  |(go_at_call 31;refine(fv.out _).mono ?_;rintro e cx ⟨bi,F,cv,rfl,ce,f1,X⟩;have dm:Hid (Below g.heap.size g cx):=ab (ae cb.out _) X;have a8:=Lib.hid (f0.out.below (ab (ar _ _) X));clear X x y B D t ek el em))
 have g9:F<=33:=by have:=fo.out;rw[ce.out]at this;exact this
 have dn:Hid (∀a,(q.take 0).find? (dE a b)=none):=λa=>rfl;obtain⟨ec,f2,ds⟩:=HC.out;have dx:=Lib.hid ds;have a9:Hid (a7=(bz l).length):=a8.out.hn;have g4:a7<=501:=by rw[a9.out];exact ec
 clear ds f2 ec;obtain⟨a,bb⟩:∃a,Hid (bz l=a):=⟨_,rfl⟩;rw[bb.out]at a8 a9 dx;go_loopw [64] (λbo wr=>∃j:Nat,j<=F/\bo= .int .i64 j/\Hid ((q.take j).find? (dE a b)=none)/\Hid (af cx wr)) (λbo _=>F-(intOf bo).toNat)
 case atStart=>exact⟨0,Nat.zero_le _,rfl,dn.out a,Below.refl _ _⟩
 case round=>
  clear dn;obtain⟨j,en,rfl,dy,hB⟩:=hrel;by_cases d0:j<F
  ·have bf:j<q.length:=by rw[ce.out];exact d0
   obtain⟨Q,T,rfl,d1,d2⟩:=f1.out oO;have cg:=d2 j bf;have d3:q.getD j (0,false)∈q:=by
    simp only[List.getD,List.getElem?_eq_getElem bf,Option.getD_some];exact List.getElem_mem bf
   have f3:=fn.out _ d3;have d4:=Lib.hid (wR (dE a b) q (0,false) j bf dy.out);have e1:wr.cell? ⟨Q,T+j* 2,none⟩=some (.int .i64 ((q.getD j (0,false)).1:Int)):=(hB.out.cell (p:=⟨Q,T+j* 2,none⟩) d1).trans cg.1;have e2:wr.cell? ⟨Q,T+j* 2+1,none⟩=some (.bool (q.getD j (0,false)).2):=(hB.out.cell (p:=⟨Q,T+j* 2+1,none⟩) d1).trans cg.2;generalize q.getD j (0,false)=p at*;obtain⟨L,c⟩:=p;obtain⟨al,K,c2⟩:=f3;have al:1<=L:=al;have K:L<=32:=K;have e1:wr.cell? ⟨Q,T+j* 2,none⟩=some (.int .i64 (L:Int)):=e1;have e2:wr.cell? ⟨Q,T+j* 2+1,none⟩=some (.bool c):=e2;have f4:Hid (c=true->L<=4):=c2;clear c2 cg d2 d3;have ch:=ep wr L c;have o:Hid (Below g.heap.size g wr):=ab dm.out hB.out;have d5:Hid (∀W,Calls Tryz.prog 33 #[cy L c] W λe w'=>e= .returned (.int .i64 ((aq L:Nat):Int))/\Below W.heap.size W w'):=λW=>lB L c W K;have ed:Hid (∀W A m c',SR vB false W A m c' a->Calls Tryz.prog 32 #[.slice A m c',.int .i64 ((aq L:Nat):Int)] W (RT vN 0 W (az a (aq L),0))):=by
    show∀W A m c',_->_;intro W A m c' bq;have h:=wC A m c' ((aq L:Nat):Int) a W bq;rw[oF (by rw[<-a9.out];omega)]at h;exact h
   obtain⟨d6,f5,ci⟩:=dx.out L;have bd:Hid (∀W,Calls Tryz.prog 34 #[cy L c,.int .i64 ((az a (aq L)).length:Int),.int .i64 (a7:Int),.int .i64 (b:Int)] W λe w'=>e= .returned (.bool (dE a b (L,c)))/\Below W.heap.size W w'):=λW=>by
    have h:=zi L c (az a (aq L)).length a7 b W K oO oO oO;rw[a9.out]at h⊢;exact h
   have ck:Hid (dE a b (L,c)=true->(az a (aq L)).length<=eM c/\(az a (aq L)).length<aQ L c):=by
    show _->_;intro h;exact fW h al K ci
   have cq:Hid (dE a b (L,c)=true->∀W A m c',SR vN 0 W A m c' (az a (aq L))->Calls Tryz.prog 35 #[cy L c,.slice A m c'] W λe w'=>∃db N,N=ao L c* ao L c/\e= .returned (.tuple #[og L c m (ao L c) db N,.int .i64 0])/\bc w' db (fw L c (az a (aq L)))/\W.heap.size<=db/\Below W.heap.size W w'):=λh W A m c' bq=>
    tG L c _ A m c' W al K f4.out d6 ci (ck.out h).1 (ck.out h).2 bq
   have f6:(ao L c)* (ao L c)<=161* 161:=by have:=(nz L c al K).2;exact Nat.mul_le_mul this this
   have gg:Hid ((fw L c (az a (aq L))).length=ao L c* ao L c):=sO _ _ _ _;have cr:Hid (∀(R:Option (Nat×Bool)×Int) (W:World) (db N k:Nat),(∀p,cA a b 0 f=some p->R=(some p,0))->dE a b (L,c)=true->N=ao L c* ao L c->k=(az a (aq L)).length->bc W db (fw L c (az a (aq L)))->R=(some (L,c),0)/\xN W (og L c k (ao L c) db N) a (some (L,c))):=by
    show∀(R:Option (Nat×Bool)×Int) (W:World) (db N k:Nat),_->_->_->_->_->_;intro R W db N k r J bs eq ad;refine⟨r _ (by rw[c6.out];exact d4.out.1 J),⟨some ⟨db,0,none⟩,N,N,bs,by rw[eq],?_⟩⟩;exact ad.sr (by rw[bs,gg.out]) (by rw[bs];unfold maxLen;omega)
   clear d6 f5 ci;generalize ao L c=S at*;generalize fw L c (az a (aq L))=dl at*;generalize f7:az a (aq L)=c3 at*;generalize aq L=z at*;clear f7 f6;have f8:Hid (∀(W:World) (db:Nat),af (wr.alloc (bM L c)) W->W.heap.size<=db->w.heap.size+1<db):=by
    show∀(W:World) (db:Nat),_->_->_;intro W db r J;have er:=r.size;have g5:=o.out.size;have g6:=s.out.2.1;simp at er;omega
   obtain⟨⟨x,y,B⟩,D,t⟩:=V.out wr o.out;cases hb:dE a b (L,c)with
   |true=>
    rw[hb]at bd;have gi:=Lib.hid (cq.out hb);have ef:=Lib.hid (λR W db N k r=>cr.out R W db N k r hb);clear cq cr hb
    go_wp2_with(first
     |(go_at_call 33;refine(d5.out _).mono ?_;rintro e bt ⟨rfl,a0⟩;have a1:Hid (af (wr.alloc (bM L c)) bt):=a0;have co:=Lib.hid ((a8.out.below hB.out).below (cN a1.out));clear a0 x y B D t e1 e2)
     |(go_at_call 32;refine(ed.out _ _ _ _ co.out).mono ?_;rintro e am ⟨es,rfl,a2,H⟩;obtain⟨et,U,eu,rfl,Y⟩:=a2.parts;have f9:=Lib.hid Y;have M:Hid (af (wr.alloc (bM L c)) am):=ab a1.out H;have O:Hid (U=c3.length):=Y.hn;have cs:Hid (Below g.heap.size g am):=ab o.out (cN M.out);clear a2 H Y;obtain⟨ap,av⟩:=ch.out _ M.out;obtain⟨⟨x,y,B⟩,D,t⟩:=V.out _ cs.out)
     |(go_at_call 34;rw[O.out];refine(bd.out _).mono ?_;rw[<-O.out];rintro e bv ⟨rfl,Z⟩;have a3:Hid (af (wr.alloc (bM L c)) bv):=ab M.out Z;have ga:=Lib.hid (f9.out.below Z);clear Z ap av x y B D t;obtain⟨ap,av⟩:=ch.out _ a3.out)
     |(go_at_call 35;refine(gi.out _ _ _ _ ga.out).mono ?_;rintro e d ⟨db,N,c4,rfl,d7,d8,X⟩;have gb:Hid (af (wr.alloc (bM L c)) d):=ab a3.out X;have d9:=Lib.hid d7;have ea:=Lib.hid c4;have gc:=Lib.hid (f8.out _ _ a3.out d8);clear d7 d8 X c4 ap av;have u:Hid (Below g.heap.size g d):=ab o.out (cN gb.out);have c0:(d).cell? ⟨w.heap.size+1,0,none⟩=some (.int .i64 0):=(i.out d u.out).cell 0 _ rfl;have c1:(d).cell? ⟨w.heap.size+1,1,none⟩=some (.bool false):=(i.out d u.out).cell 1 _ rfl;have bx:(d).cell? ⟨w.heap.size+1,2,none⟩=some (.int .i64 0):=(i.out d u.out).cell 2 _ rfl;have b1:(d).cell? ⟨w.heap.size+1,3,none⟩=some (.int .i64 0):=(i.out d u.out).cell 3 _ rfl;have b2:(d).cell? ⟨w.heap.size+1,4,none⟩=some (.int .i64 0):=(i.out d u.out).cell 4 _ rfl;have b3:(d).cell? ⟨w.heap.size+1,5,none⟩=some (.slice none 0 0):=(i.out d u.out).cell 5 _ rfl;have b4:(d).frozen? ⟨w.heap.size+1,0,none⟩=false:=frozen_of_row _ _ _ _ _ ((i.out d u.out));have b5:(d).frozen? ⟨w.heap.size+1,1,none⟩=false:=frozen_of_row _ _ _ _ _ ((i.out d u.out));have b6:(d).frozen? ⟨w.heap.size+1,2,none⟩=false:=frozen_of_row _ _ _ _ _ ((i.out d u.out));have b7:(d).frozen? ⟨w.heap.size+1,3,none⟩=false:=frozen_of_row _ _ _ _ _ ((i.out d u.out));have b8:(d).frozen? ⟨w.heap.size+1,4,none⟩=false:=frozen_of_row _ _ _ _ _ ((i.out d u.out));have b9:(d).frozen? ⟨w.heap.size+1,5,none⟩=false:=frozen_of_row _ _ _ _ _ ((i.out d u.out))))
    refine bodyPost_ret (v:= .tuple #[og L c U S db N,.int .i64 0]) (by simp[results,Tryz.results12,go_sem,c0,c1,bx,b1,b2,b3,b4,b5,b6,b7,b8,b9]) rfl ⟨c9.out,λR a4 be=>?_⟩;have ac:db≠w.heap.size+1:=by have:=gc.out;omega
    rw[bb.out]at a4 be;obtain rfl:=(ef.out R d db N U a4 ea.out O.out d9.out).1;refine⟨_,rfl,?_,?_⟩
    ·rw[bb.out];refine(ef.out _ _ db N U a4 ea.out O.out ?_).2;exact aa.bw (aa.bw (aa.bw (aa.bw (aa.bw (aa.bw d9.out _ _ ac) _ _ ac) _ _ ac) _ _ ac) _ _ ac) _ _ ac
    ·have cp:Hid (Below w.heap.size w d):=ca.out.trans (u.out.mono s.out.2.2);exact((((((cp.out).setCell s.out.1 _).setCell s.out.1 _).setCell s.out.1 _).setCell s.out.1 _).setCell s.out.1 _).setCell s.out.1 _
   |false=>
    rw[hb]at bd;have gd:=Lib.hid (d4.out.2 hb);clear cq cr hb ck
    go_wp2_with(first
     |(go_at_call 33;refine(d5.out _).mono ?_;rintro e bt ⟨rfl,a0⟩;have a1:Hid (af (wr.alloc (bM L c)) bt):=a0;have co:=Lib.hid ((a8.out.below hB.out).below (cN a1.out));clear a0 x y B D t e1 e2)
     |(go_at_call 32;refine(ed.out _ _ _ _ co.out).mono ?_;rintro e am ⟨es,rfl,a2,H⟩;obtain⟨et,U,eu,rfl,Y⟩:=a2.parts;have M:Hid (af (wr.alloc (bM L c)) am):=ab a1.out H;have O:Hid (U=c3.length):=Y.hn;have cs:Hid (Below g.heap.size g am):=ab o.out (cN M.out);clear a2 H Y;obtain⟨ap,av⟩:=ch.out _ M.out;obtain⟨⟨x,y,B⟩,D,t⟩:=V.out _ cs.out)
     |(go_at_call 34;rw[O.out];refine(bd.out _).mono ?_;rw[<-O.out];rintro e bv ⟨rfl,Z⟩;have a3:Hid (af (wr.alloc (bM L c)) bv):=ab M.out Z;clear Z ap av x y B D t))
    exact⟨⟨j+1,by omega,by go_num,gd.out,ab hB.out (cN a3.out)⟩,by simp[intOf];omega⟩
  ·have ex:Hid (j=F):=by show _=_;omega
   have g7:decide (j<F)=false:=by simp;omega
   have ge:Hid (cA a b 0 f=none):=by show _=_;rw[c6.out];have:=dy.out;rw[ex.out,<-ce.out,List.take_length]at this;exact this
   have g8:¬j<F:=oO;have o:Hid (Below g.heap.size g wr):=ab dm.out hB.out;clear d0 en;have c0:(wr).cell? ⟨w.heap.size+1,0,none⟩=some (.int .i64 0):=(i.out wr o.out).cell 0 _ rfl;have c1:(wr).cell? ⟨w.heap.size+1,1,none⟩=some (.bool false):=(i.out wr o.out).cell 1 _ rfl;have bx:(wr).cell? ⟨w.heap.size+1,2,none⟩=some (.int .i64 0):=(i.out wr o.out).cell 2 _ rfl;have b1:(wr).cell? ⟨w.heap.size+1,3,none⟩=some (.int .i64 0):=(i.out wr o.out).cell 3 _ rfl;have b2:(wr).cell? ⟨w.heap.size+1,4,none⟩=some (.int .i64 0):=(i.out wr o.out).cell 4 _ rfl;have b3:(wr).cell? ⟨w.heap.size+1,5,none⟩=some (.slice none 0 0):=(i.out wr o.out).cell 5 _ rfl;have b4:(wr).frozen? ⟨w.heap.size+1,0,none⟩=false:=frozen_of_row _ _ _ _ _ ((i.out wr o.out));have b5:(wr).frozen? ⟨w.heap.size+1,1,none⟩=false:=frozen_of_row _ _ _ _ _ ((i.out wr o.out));have b6:(wr).frozen? ⟨w.heap.size+1,2,none⟩=false:=frozen_of_row _ _ _ _ _ ((i.out wr o.out));have b7:(wr).frozen? ⟨w.heap.size+1,3,none⟩=false:=frozen_of_row _ _ _ _ _ ((i.out wr o.out));have b8:(wr).frozen? ⟨w.heap.size+1,4,none⟩=false:=frozen_of_row _ _ _ _ _ ((i.out wr o.out));have b9:(wr).frozen? ⟨w.heap.size+1,5,none⟩=false:=frozen_of_row _ _ _ _ _ ((i.out wr o.out));go_wp2;refine bodyPost_ret (v:= .tuple #[.agg aI,.int .i64 16]) (by simp[results,Tryz.results12,go_sem,c0,c1,bx,b1,b2,b3,b4,b5,b6,b7,b8,b9]) rfl ⟨c9.out,λR a4 be=>?_⟩;rw[bb.out]at a4 be;obtain rfl:=be ge.out;refine⟨_,rfl,rfl,?_⟩;have cp:Hid (Below w.heap.size w wr):=ca.out.trans (o.out.mono s.out.2.2);exact((((((cp.out).setCell s.out.1 _).setCell s.out.1 _).setCell s.out.1 _).setCell s.out.1 _).setCell s.out.1 _).setCell s.out.1 _
theorem Ah (A:Option Addr) (n a6:Nat) (l:List UInt8) (f:Bool) (b:Nat) (c3:1<=b) (c4:b<=32) (b8:f=true->b<=4) (d:Nat) (w:World) (hs:SR vU 0 w A n a6 l) (n1:1<=n) (n2:n<=60) (p1:5<=d) (p2:d<=90):
 Calls Tryz.prog 12 #[.slice A n a6,.agg #[.int .i64 (b:Int),.bool f,.int .i64 (d:Int)]] w λe w'=>(∃C,cj (bA l) C)/\∀R,(∀p,cA (bz l) d b f=some p->R=(some p,0))->(cA (bz l) d b f=none->R=(none,16))->fO w l R e w':=by
 obtain⟨g,G⟩:∃g,g=(((w.alloc (.cells #[.int .i64 (b:Int),.bool f,.int .i64 (d:Int)] 24)).alloc (.cells aI 30)).alloc (bM b f)):=⟨_,rfl⟩;have b9:Hid (Below w.heap.size w g):=by show Below _ _ _;rw[G];exact ae (ae (ar _ _) _) _
 have e0:Hid (aa g w.heap.size #[.int .i64 (b:Int),.bool f,.int .i64 (d:Int)] 24):=by
  show aa _ _ _ _;rw[G];have s:aa (w.alloc (.cells #[.int .i64 (b:Int),.bool f,.int .i64 (d:Int)] 24)) w.heap.size #[.int .i64 (b:Int),.bool f,.int .i64 (d:Int)] 24:=aa.new _ _ _ _ rfl;exact(s.below (ar _ _)).below (ar _ _)
 have e9:Hid (aa g (w.heap.size+1) aI 30):=by
  show aa _ _ _ _;rw[G];have s:aa ((w.alloc (.cells #[.int .i64 (b:Int),.bool f,.int .i64 (d:Int)] 24)).alloc (.cells aI 30)) (w.heap.size+1) aI 30:=aa.new _ _ _ _ oS;exact s.below (ar _ _)
 have fb:Hid (aa g (w.heap.size+1+1) #[.int .i64 (b:Int),.bool f] 60):=by show aa _ _ _ _;rw[G];exact aa.new _ _ _ _ oS
 have u:Hid (w.heap.size<=w.heap.size+1/\w.heap.size+1<g.heap.size/\w.heap.size<=g.heap.size):=by show _/\_;rw[G];simp;omega
 have O:Hid (∀W,af g W->(W.cell? ⟨w.heap.size,0,none⟩=some (.int .i64 (b:Int))/\W.cell? ⟨w.heap.size,1,none⟩=some (.bool f)/\W.cell? ⟨w.heap.size,2,none⟩=some (.int .i64 (d:Int)))/\W.cell? ⟨w.heap.size+1+1,0,none⟩=some (.int .i64 (b:Int))/\W.cell? ⟨w.heap.size+1+1,1,none⟩=some (.bool f)):=by
  show∀W,_;intro W T;have s:=e0.out.below T;have K:=fb.out.below T;exact⟨⟨s.cell 0 _ rfl,s.cell 1 _ rfl,s.cell 2 _ rfl⟩,K.cell 0 _ rfl,K.cell 1 _ rfl⟩
 have o:Hid (∀W,af g W->aa W (w.heap.size+1) aI 30):=λW T=>e9.out.below T;have fd:Hid (∀W,Below (((w.alloc (.cells #[.int .i64 (b:Int),.bool f,.int .i64 (d:Int)] 24)).alloc (.cells aI 30)).alloc (bM b f)).heap.size (((w.alloc (.cells #[.int .i64 (b:Int),.bool f,.int .i64 (d:Int)] 24)).alloc (.cells aI 30)).alloc (bM b f)) W->Below g.heap.size g W):=by show∀W,_->_;rw[<-G];exactλW h=>h
 have fn:=Lib.hid G;have gt:Hid (n=l.length):=hs.hn;have fo:Hid (∀W,af w W->Calls Tryz.prog 30 #[.slice A n a6] W λe w'=>(∃C,cj (bA l) C)/\RT vB false W (bz l,0) e w'):=by
  show∀W,_->_;intro W T;refine(tI A n a6 l W (hs.below T) oO).mono ?_;rintro e w' ⟨C,F,ej⟩;refine⟨⟨C,F⟩,?_⟩;rw[lh (by rw[<-hs.hn];omega) F];exact ej
 have fr:Hid ((∃C,cj (bA l) C)->(bz l).length<=501/\1<=(bz l).length/\∀L,aA (2^aq L) (az (bz l) (aq L))/\(az (bz l) (aq L)).length<=501/\1<=(az (bz l) (aq L)).length):=by
  show _->_;rintro⟨C,F⟩;have s:=mZ (l:=l) (by rw[<-hs.hn];omega) F;rw[<-hs.hn]at s;have K:=qa (by rw[<-hs.hn];omega) (by rw[<-hs.hn];exact n1) F;refine⟨by omega,K,λL=>?_⟩;obtain⟨t,gx,ek,gy⟩:=lE (l:=l) (by rw[<-hs.hn];omega) F L rfl;refine⟨t,by omega,?_⟩;rcases Nat.eq_zero_or_pos (az (bz l) (aq L)).length with ad|ad
  ·rw[ad]at ek;omega
  ·exact ad
 have gL:¬(4096:Int)<(n:Int):=oO;have gN:((n:Int)==0)=false:=by rw[beq_eq_false_iff_ne];omega
 have gX:¬n=0:=oO;have gY:¬(d:Int)<5:=oO;have g0:¬(90:Int)<(d:Int):=oO;have g1:decide (d<5)=false:=by simp;omega
 have g2:decide (90<d)=false:=by simp;omega
 have iv:n<=4096:=oO;obtain⟨r,a5⟩:∃r,r=[(b,f)]:=⟨_,rfl⟩;have c5:Hid (∀a,cA a d b f=r.find? (dE a d)):=by show∀a,_;intro a;unfold cA om;rw[a5];rw[if_neg oO]
 have fv:Hid (∀p∈r,De p):=by
  show∀p∈_,_;rw[a5];intro p cs;rw[List.mem_singleton]at cs;rw[cs];exact⟨c3,c4,b8⟩
 have ih:Hid (r.length<=33):=by show _<=_;rw[a5];show 1<=33;omega
 have c6:=Lib.hid a5;obtain⟨⟨x,y,B⟩,D,t⟩:=O.out g (Below.refl _ _);rw[fn.out]at x y B D t;have g3:=Lib.hid hs;clear hs a5 n1 G;have ii:((b:Int)==0)=false:=by rw[beq_eq_false_iff_ne];omega
 have it:¬b=0:=oO;have fx:Hid (∀W,Calls Tryz.prog 29 #[cy b f] W λe w'=>e= .returned (.bool true)/\Below W.heap.size W w'):=λW=>by rw[<-exB_of c3 c4 b8];exact gw b f W
 have f0:Hid (∀W:World,KC (W.alloc (.cells #[.int .i64 (b:Int),.bool f] 60)) (some ⟨W.heap.size,0,none⟩) r):=by
  show∀W:World,_;intro W;obtain⟨A',c',e,-,-,h⟩:=SY.lit W [(b,f)] 60 W.heap.size 1 rfl rfl oM;injection e with e1 _ _;rw[c6.out,e1];exact h
 clear b8;go_enter Tryz.func12,Tryz.ntmps12
 go_wp2_with(first
  |(go_at_call 29;refine(fx.out _).mono ?_;rintro e w1 ⟨rfl,H⟩;have ca:Hid (Below g.heap.size g w1):=fd.out _ H;clear H x y B D t;obtain⟨⟨x,y,B⟩,D,t⟩:=O.out _ ca.out)
  |(go_at_call 30;refine(fo.out _ (ab b9.out ca.out)).mono ?_;rintro e w2 ⟨F,g4,rfl,c7,J⟩;obtain⟨g5,a7,g6,rfl,f1⟩:=c7.parts;have HC:=Lib.hid (fr.out F);have c8:=Lib.hid F;have f2:=Lib.hid f1;have cb:Hid (Below g.heap.size g w2):=ab ca.out J;clear F c7 J x y B D t;obtain⟨⟨x,y,B⟩,D,t⟩:=O.out _ cb.out;obtain⟨⟨el,em,en⟩,-,-⟩:=O.out _ (ae cb.out (.cells #[.int .i64 (b:Int),.bool f] 60))))
 have f3:=Lib.hid (f0.out w2);have c9:Hid (Below g.heap.size g (w2.alloc (.cells #[.int .i64 (b:Int),.bool f] 60))):=ae cb.out _;have a8:=Lib.hid (f2.out.below (ar w2 (.cells #[.int .i64 (b:Int),.bool f] 60)));have dm:Hid (r.length=1):=by show _=_;rw[c6.out];rfl
 generalize f4:w2.alloc (.cells #[.int .i64 (b:Int),.bool f] 60)=eq at*;clear f4 x y B D t el em en;generalize al:(some ⟨w2.heap.size,0,none⟩:Option Addr)=g7 at*;clear al;have dn:Hid (∀a,(r.take 0).find? (dE a d)=none):=λa=>rfl;obtain⟨ed,f5,ds⟩:=HC.out;have dx:=Lib.hid ds;have a9:Hid (a7=(bz l).length):=a8.out.hn;have g8:a7<=501:=by rw[a9.out];exact ed
 clear ds f5 ed;obtain⟨a,bb⟩:∃a,Hid (bz l=a):=⟨_,rfl⟩;rw[bb.out]at a8 a9 dx;go_loopw [64] (λbi wr=>∃j:Nat,j<=1/\bi= .int .i64 j/\Hid ((r.take j).find? (dE a d)=none)/\Hid (af eq wr)) (λbi _=>1-(intOf bi).toNat)
 case atStart=>exact⟨0,Nat.zero_le _,rfl,dn.out a,Below.refl _ _⟩
 case round=>
  clear dn;obtain⟨j,er,rfl,dy,hB⟩:=hrel;by_cases d0:j<1
  ·have bf:j<r.length:=by rw[dm.out];exact d0
   obtain⟨U,V,rfl,d1,d2⟩:=f3.out oO;have ce:=d2 j bf;have d3:r.getD j (0,false)∈r:=by
    simp only[List.getD,List.getElem?_eq_getElem bf,Option.getD_some];exact List.getElem_mem bf
   have f6:=fv.out _ d3;have d4:=Lib.hid (wR (dE a d) r (0,false) j bf dy.out);have e1:wr.cell? ⟨U,V+j* 2,none⟩=some (.int .i64 ((r.getD j (0,false)).1:Int)):=(hB.out.cell (p:=⟨U,V+j* 2,none⟩) d1).trans ce.1;have e2:wr.cell? ⟨U,V+j* 2+1,none⟩=some (.bool (r.getD j (0,false)).2):=(hB.out.cell (p:=⟨U,V+j* 2+1,none⟩) d1).trans ce.2;generalize r.getD j (0,false)=p at*;obtain⟨L,c⟩:=p;obtain⟨am,M,cv⟩:=f6;have am:1<=L:=am;have M:L<=32:=M;have e1:wr.cell? ⟨U,V+j* 2,none⟩=some (.int .i64 (L:Int)):=e1;have e2:wr.cell? ⟨U,V+j* 2+1,none⟩=some (.bool c):=e2;have f7:Hid (c=true->L<=4):=cv;clear cv ce d2 d3;have cg:=ep wr L c;have q:Hid (Below g.heap.size g wr):=ab c9.out hB.out;have d5:Hid (∀W,Calls Tryz.prog 33 #[cy L c] W λe w'=>e= .returned (.int .i64 ((aq L:Nat):Int))/\Below W.heap.size W w'):=λW=>lB L c W M;have ef:Hid (∀W A m c',SR vB false W A m c' a->Calls Tryz.prog 32 #[.slice A m c',.int .i64 ((aq L:Nat):Int)] W (RT vN 0 W (az a (aq L),0))):=by
    show∀W A m c',_->_;intro W A m c' al;have h:=wC A m c' ((aq L:Nat):Int) a W al;rw[oF (by rw[<-a9.out];omega)]at h;exact h
   obtain⟨d6,f8,ch⟩:=dx.out L;have bd:Hid (∀W,Calls Tryz.prog 34 #[cy L c,.int .i64 ((az a (aq L)).length:Int),.int .i64 (a7:Int),.int .i64 (d:Int)] W λe w'=>e= .returned (.bool (dE a d (L,c)))/\Below W.heap.size W w'):=λW=>by
    have h:=zi L c (az a (aq L)).length a7 d W M oO oO oO;rw[a9.out]at h⊢;exact h
   have ci:Hid (dE a d (L,c)=true->(az a (aq L)).length<=eM c/\(az a (aq L)).length<aQ L c):=by
    show _->_;intro h;exact fW h am M ch
   have cp:Hid (dE a d (L,c)=true->∀W A m c',SR vN 0 W A m c' (az a (aq L))->Calls Tryz.prog 35 #[cy L c,.slice A m c'] W λe w'=>∃db N,N=ao L c* ao L c/\e= .returned (.tuple #[og L c m (ao L c) db N,.int .i64 0])/\bc w' db (fw L c (az a (aq L)))/\W.heap.size<=db/\Below W.heap.size W w'):=λh W A m c' al=>
    tG L c _ A m c' W am M f7.out d6 ch (ci.out h).1 (ci.out h).2 al
   have f9:(ao L c)* (ao L c)<=161* 161:=by have:=(nz L c am M).2;exact Nat.mul_le_mul this this
   have gq:Hid ((fw L c (az a (aq L))).length=ao L c* ao L c):=sO _ _ _ _;have cq:Hid (∀(R:Option (Nat×Bool)×Int) (W:World) (db N k:Nat),(∀p,cA a d b f=some p->R=(some p,0))->dE a d (L,c)=true->N=ao L c* ao L c->k=(az a (aq L)).length->bc W db (fw L c (az a (aq L)))->R=(some (L,c),0)/\xN W (og L c k (ao L c) db N) a (some (L,c))):=by
    show∀(R:Option (Nat×Bool)×Int) (W:World) (db N k:Nat),_->_->_->_->_->_;intro R W db N k s K bo es ad;refine⟨s _ (by rw[c5.out];exact d4.out.1 K),⟨some ⟨db,0,none⟩,N,N,bo,by rw[es],?_⟩⟩;exact ad.sr (by rw[bo,gq.out]) (by rw[bo];unfold maxLen;omega)
   clear d6 f8 ch;generalize ao L c=S at*;generalize fw L c (az a (aq L))=dl at*;generalize ga:az a (aq L)=cx at*;generalize aq L=z at*;clear ga f9;have gb:Hid (∀(W:World) (db:Nat),af (wr.alloc (bM L c)) W->W.heap.size<=db->w.heap.size+1<db):=by
    show∀(W:World) (db:Nat),_->_->_;intro W db s K;have et:=s.size;have g9:=q.out.size;have ib:=u.out.2.1;simp at et;omega
   obtain⟨⟨x,y,B⟩,D,t⟩:=O.out wr q.out;cases hb:dE a d (L,c)with
   |true=>
    rw[hb]at bd;have gs:=Lib.hid (cp.out hb);have eh:=Lib.hid (λR W db N k s=>cq.out R W db N k s hb);clear cp cq hb
    go_wp2_with(first
     |(go_at_call 33;refine(d5.out _).mono ?_;rintro e bq ⟨rfl,H⟩;have a1:Hid (af (wr.alloc (bM L c)) bq):=H;have ck:=Lib.hid ((a8.out.below hB.out).below (cN a1.out));clear H x y B D t e1 e2)
     |(go_at_call 32;refine(ef.out _ _ _ _ ck.out).mono ?_;rintro e ap ⟨eu,rfl,a2,J⟩;obtain⟨ex,X,ey,rfl,Y⟩:=a2.parts;have gc:=Lib.hid Y;have P:Hid (af (wr.alloc (bM L c)) ap):=ab a1.out J;have Q:Hid (X=cx.length):=Y.hn;have cr:Hid (Below g.heap.size g ap):=ab q.out (cN P.out);clear a2 J Y;obtain⟨av,a0⟩:=cg.out _ P.out;obtain⟨⟨x,y,B⟩,D,t⟩:=O.out _ cr.out)
     |(go_at_call 34;rw[Q.out];refine(bd.out _).mono ?_;rw[<-Q.out];rintro e bs ⟨rfl,Z⟩;have a3:Hid (af (wr.alloc (bM L c)) bs):=ab P.out Z;have gd:=Lib.hid (gc.out.below Z);clear Z av a0 x y B D t;obtain⟨av,a0⟩:=cg.out _ a3.out)
     |(go_at_call 35;refine(gs.out _ _ _ _ gd.out).mono ?_;rintro e i ⟨db,N,c2,rfl,d7,d8,d9⟩;have ge:Hid (af (wr.alloc (bM L c)) i):=ab a3.out d9;have ea:=Lib.hid d7;have ec:=Lib.hid c2;have gg:=Lib.hid (gb.out _ _ a3.out d8);clear d7 d8 d9 c2 av a0;have E:Hid (Below g.heap.size g i):=ab q.out (cN ge.out);have c0:(i).cell? ⟨w.heap.size+1,0,none⟩=some (.int .i64 0):=(o.out i E.out).cell 0 _ rfl;have c1:(i).cell? ⟨w.heap.size+1,1,none⟩=some (.bool false):=(o.out i E.out).cell 1 _ rfl;have bt:(i).cell? ⟨w.heap.size+1,2,none⟩=some (.int .i64 0):=(o.out i E.out).cell 2 _ rfl;have bv:(i).cell? ⟨w.heap.size+1,3,none⟩=some (.int .i64 0):=(o.out i E.out).cell 3 _ rfl;have bx:(i).cell? ⟨w.heap.size+1,4,none⟩=some (.int .i64 0):=(o.out i E.out).cell 4 _ rfl;have b1:(i).cell? ⟨w.heap.size+1,5,none⟩=some (.slice none 0 0):=(o.out i E.out).cell 5 _ rfl;have b2:(i).frozen? ⟨w.heap.size+1,0,none⟩=false:=frozen_of_row _ _ _ _ _ ((o.out i E.out));have b3:(i).frozen? ⟨w.heap.size+1,1,none⟩=false:=frozen_of_row _ _ _ _ _ ((o.out i E.out));have b4:(i).frozen? ⟨w.heap.size+1,2,none⟩=false:=frozen_of_row _ _ _ _ _ ((o.out i E.out));have b5:(i).frozen? ⟨w.heap.size+1,3,none⟩=false:=frozen_of_row _ _ _ _ _ ((o.out i E.out));have b6:(i).frozen? ⟨w.heap.size+1,4,none⟩=false:=frozen_of_row _ _ _ _ _ ((o.out i E.out));have b7:(i).frozen? ⟨w.heap.size+1,5,none⟩=false:=frozen_of_row _ _ _ _ _ ((o.out i E.out))))
    refine bodyPost_ret (v:= .tuple #[og L c X S db N,.int .i64 0]) (by simp[results,Tryz.results12,go_sem,c0,c1,bt,bv,bx,b1,b2,b3,b4,b5,b6,b7]) rfl ⟨c8.out,λR a4 be=>?_⟩;have ac:db≠w.heap.size+1:=by have:=gg.out;omega
    rw[bb.out]at a4 be;obtain rfl:=(eh.out R i db N X a4 ec.out Q.out ea.out).1;refine⟨_,rfl,?_,?_⟩
    ·rw[bb.out];refine(eh.out _ _ db N X a4 ec.out Q.out ?_).2;exact aa.bw (aa.bw (aa.bw (aa.bw (aa.bw (aa.bw ea.out _ _ ac) _ _ ac) _ _ ac) _ _ ac) _ _ ac) _ _ ac
    ·have co:Hid (Below w.heap.size w i):=b9.out.trans (E.out.mono u.out.2.2);exact((((((co.out).setCell u.out.1 _).setCell u.out.1 _).setCell u.out.1 _).setCell u.out.1 _).setCell u.out.1 _).setCell u.out.1 _
   |false=>
    rw[hb]at bd;have gi:=Lib.hid (d4.out.2 hb);clear cp cq hb ci
    go_wp2_with(first
     |(go_at_call 33;refine(d5.out _).mono ?_;rintro e bq ⟨rfl,H⟩;have a1:Hid (af (wr.alloc (bM L c)) bq):=H;have ck:=Lib.hid ((a8.out.below hB.out).below (cN a1.out));clear H x y B D t e1 e2)
     |(go_at_call 32;refine(ef.out _ _ _ _ ck.out).mono ?_;rintro e ap ⟨eu,rfl,a2,J⟩;obtain⟨ex,X,ey,rfl,Y⟩:=a2.parts;have P:Hid (af (wr.alloc (bM L c)) ap):=ab a1.out J;have Q:Hid (X=cx.length):=Y.hn;have cr:Hid (Below g.heap.size g ap):=ab q.out (cN P.out);clear a2 J Y;obtain⟨av,a0⟩:=cg.out _ P.out;obtain⟨⟨x,y,B⟩,D,t⟩:=O.out _ cr.out)
     |(go_at_call 34;rw[Q.out];refine(bd.out _).mono ?_;rw[<-Q.out];rintro e bs ⟨rfl,Z⟩;have a3:Hid (af (wr.alloc (bM L c)) bs):=ab P.out Z;clear Z av a0 x y B D t))
    exact⟨⟨j+1,by omega,by go_num,gi.out,ab hB.out (cN a3.out)⟩,by simp[intOf];omega⟩
  ·have ez:Hid (j=1):=by show _=_;omega
   have io:decide (j<1)=false:=by simp;omega
   have go:Hid (cA a d b f=none):=by show _=_;rw[c5.out];have:=dy.out;rw[ez.out,<-dm.out,List.take_length]at this;exact this
   have ip:¬j<1:=oO;have q:Hid (Below g.heap.size g wr):=ab c9.out hB.out;clear d0 er;have c0:(wr).cell? ⟨w.heap.size+1,0,none⟩=some (.int .i64 0):=(o.out wr q.out).cell 0 _ rfl;have c1:(wr).cell? ⟨w.heap.size+1,1,none⟩=some (.bool false):=(o.out wr q.out).cell 1 _ rfl;have bt:(wr).cell? ⟨w.heap.size+1,2,none⟩=some (.int .i64 0):=(o.out wr q.out).cell 2 _ rfl;have bv:(wr).cell? ⟨w.heap.size+1,3,none⟩=some (.int .i64 0):=(o.out wr q.out).cell 3 _ rfl;have bx:(wr).cell? ⟨w.heap.size+1,4,none⟩=some (.int .i64 0):=(o.out wr q.out).cell 4 _ rfl;have b1:(wr).cell? ⟨w.heap.size+1,5,none⟩=some (.slice none 0 0):=(o.out wr q.out).cell 5 _ rfl;have b2:(wr).frozen? ⟨w.heap.size+1,0,none⟩=false:=frozen_of_row _ _ _ _ _ ((o.out wr q.out));have b3:(wr).frozen? ⟨w.heap.size+1,1,none⟩=false:=frozen_of_row _ _ _ _ _ ((o.out wr q.out));have b4:(wr).frozen? ⟨w.heap.size+1,2,none⟩=false:=frozen_of_row _ _ _ _ _ ((o.out wr q.out));have b5:(wr).frozen? ⟨w.heap.size+1,3,none⟩=false:=frozen_of_row _ _ _ _ _ ((o.out wr q.out));have b6:(wr).frozen? ⟨w.heap.size+1,4,none⟩=false:=frozen_of_row _ _ _ _ _ ((o.out wr q.out));have b7:(wr).frozen? ⟨w.heap.size+1,5,none⟩=false:=frozen_of_row _ _ _ _ _ ((o.out wr q.out));go_wp2;refine bodyPost_ret (v:= .tuple #[.agg aI,.int .i64 16]) (by simp[results,Tryz.results12,go_sem,c0,c1,bt,bv,bx,b1,b2,b3,b4,b5,b6,b7]) rfl ⟨c8.out,λR a4 be=>?_⟩;rw[bb.out]at a4 be;obtain rfl:=be go.out;refine⟨_,rfl,rfl,?_⟩;have co:Hid (Below w.heap.size w wr):=b9.out.trans (q.out.mono u.out.2.2);exact((((((co.out).setCell u.out.1 _).setCell u.out.1 _).setCell u.out.1 _).setCell u.out.1 _).setCell u.out.1 _).setCell u.out.1 _
theorem sD (A:Option Addr) (n d:Nat) (l:List UInt8) (c:Int) (a:Bool) (b:Int) (w:World) (hs:SR vU 0 w A n d l) (hl:l.length<=60\/4096<l.length):
 Calls Tryz.prog 12 #[.slice A n d,.agg #[.int .i64 c,.bool a,.int .i64 b]] w λe w'=>(iG l.length c a b=0->∃C,cj (bA l) C)/\fO w l (gF l c a b) e w':=by
 have o:n<=9223372036854775807:=by have:=hs.hm;have:=hs.hc;unfold maxLen at*;omega
 have hn:n=l.length:=hs.hn;have r:iG l.length c a b=if 4096<l.length then 4 else if l.length=0 then 5 else if c≠0/\eB c a=false then 14 else if b<5\/90<b then 3 else 0:=rfl
 have y:∀k:Int,iG l.length c a b=k->k≠0->Calls Tryz.prog 12 #[.slice A n d,.agg #[.int .i64 c,.bool a,.int .i64 b]] w (fO w l (none,k))->Calls Tryz.prog 12 #[.slice A n d,.agg #[.int .i64 c,.bool a,.int .i64 b]] w λe w'=>(iG l.length c a b=0->∃C,cj (bA l) C)/\fO w l (gF l c a b) e w':=by
  intro k i j B;refine B.mono λe w' h=>⟨λf=>absurd (i.symm.trans f) j,?_⟩;unfold gF;rw[i,if_pos j];exact h
 by_cases s:4096<l.length
 ·exact y 4 (by rw[r,if_pos s]) oD (EX A n d l c a b w oO o)
 by_cases v:l.length=0
 ·have:n=0:=oO;subst this;exact y 5 (by rw[r,if_neg s,if_pos v]) oD (F3 A d l c a b w)
 by_cases m:c≠0/\eB c a=false
 ·exact y 14 (by rw[r,if_neg s,if_neg v,if_pos m]) oD (Du A n d l c a b w oO oO m.1 m.2 o)
 have t:c≠0->eB c a=true:=λh=>by
  cases t:eB c a with
  |true=>rfl
  |false=>exact absurd ⟨h,t⟩ m
 by_cases z:b<5\/90<b
 ·refine y 3 (by rw[r,if_neg s,if_neg v,if_neg m,if_pos z]) oD ?_;by_cases f:c=0
  ·subst f;by_cases u:b<5
   ·exact Dz A n d l a b w oO oO u o
   ·exact D4 A n d l a b w oO oO u oO o
  ·by_cases u:b<5
   ·exact DR A n d l c a b w oO oO f (t f) u o
   ·exact DD A n d l c a b w oO oO f (t f) u oO o
 have x:iG l.length c a b=0:=by rw[r,if_neg s,if_neg v,if_neg m,if_neg z]
 obtain⟨q,rfl⟩:∃q:Nat,b=q:=⟨b.toNat,by omega⟩;by_cases f:c=0
 ·subst f;refine(BC A n d l a q w hs oO oO oO oO).mono ?_;rintro e w' ⟨i,j⟩;refine⟨λ_=>i,j _ (λp g=>?_) (λg=>?_)⟩
  ·unfold gF;rw[x,if_neg oD];show(match cA (bz l) q 0 a with|some p=>(some p,(0:Int))|none=>(none,16))=_;rw[g]
  ·unfold gF;rw[x,if_neg oD];show(match cA (bz l) q 0 a with|some p=>(some p,(0:Int))|none=>(none,16))=_;rw[g]
 ·obtain⟨k,rfl,D,E,F⟩:=mM (t f);refine(Ah A n d l a k D E F q w hs oO oO oO oO).mono ?_;rintro e w' ⟨i,j⟩;refine⟨λ_=>i,j _ (λp g=>?_) (λg=>?_)⟩
  ·unfold gF;rw[x,if_neg oD];show(match cA (bz l) q k a with|some p=>(some p,(0:Int))|none=>(none,16))=_;rw[g]
  ·unfold gF;rw[x,if_neg oD];show(match cA (bz l) q k a with|some p=>(some p,(0:Int))|none=>(none,16))=_;rw[g]
end
end Go.Proofs.YtmnlkganmgcpbaaGreatDoor
