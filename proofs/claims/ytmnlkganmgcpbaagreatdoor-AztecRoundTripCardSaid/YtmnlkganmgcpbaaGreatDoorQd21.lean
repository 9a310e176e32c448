import Derived.Test.YtmnlkganmgcpbaaGreatDoorQd20
set_option maxRecDepth 100000
set_option maxHeartbeats 4000000
set_option linter.unusedVariables false
set_option linter.unusedSectionVars false
set_option linter.unusedSimpArgs false
namespace Go.Proofs.YtmnlkganmgcpbaaGreatDoor
section
open Go.RowKit
theorem Gt (w:World) (W H:Int) (A:Option Addr) (N a:Nat):Hid (∀V,af (w.alloc (.cells (iX W H A N a) 28)) V->V.cell? ⟨w.heap.size,0,none⟩=some (.int .i64 W)/\V.cell? ⟨w.heap.size,1,none⟩=some (.int .i64 H)/\V.cell? ⟨w.heap.size,2,none⟩=some (.slice A N a)):=by
 show∀V,_;intro V c;have h:aa (w.alloc (.cells (iX W H A N a) 28)) w.heap.size (iX W H A N a) 28:=aa.new _ _ _ _ rfl;have b:=h.below c;exact⟨b.cell 0 _ rfl,b.cell 1 _ rfl,b.cell 2 _ rfl⟩
theorem gO (W H:Int) (A:Option Addr) (N m:Nat) (w:World) (q:N<=9223372036854775807):Calls Tryz.prog 37 #[cX W H A N m] w λe w'=>e= .returned (.bool (dW W H N))/\Below w.heap.size w w':=by
 have c:Hid (dW W H N=(decide (1<=W)&&decide (W<=4096)&&decide (1<=H)&&decide (H<=4096)&&decide (W* H<=4194304)&&decide ((N:Int)=W* H))):=rfl;have d:Hid (Below w.heap.size w (w.alloc (.cells (iX W H A N m) 28))):=ax _ _;obtain⟨r,s,t⟩:=(Gt w W H A N m).out _ (Below.refl _ _);by_cases f:1<=W;rotate_left
 ·have a:Hid (dW W H N=false):=by show _=_;rw[c.out,decide_eq_false f];simp
  have b:W<1:=oO;go_enter Tryz.func37,Tryz.ntmps37;go_wp2;go_ret;exact⟨by rw[a.out];rfl,d.out⟩
 by_cases g:W<=4096;rotate_left
 ·have a:Hid (dW W H N=false):=by show _=_;rw[c.out,decide_eq_true f,decide_eq_false g];simp
  have b:4096<W:=oO;go_enter Tryz.func37,Tryz.ntmps37;go_wp2;go_ret;exact⟨by rw[a.out];rfl,d.out⟩
 by_cases i:1<=H;rotate_left
 ·have a:Hid (dW W H N=false):=by show _=_;rw[c.out,decide_eq_true f,decide_eq_true g,decide_eq_false i];simp
  have b:H<1:=oO;go_enter Tryz.func37,Tryz.ntmps37;go_wp2;go_ret;exact⟨by rw[a.out];rfl,d.out⟩
 by_cases k:H<=4096;rotate_left
 ·have a:Hid (dW W H N=false):=by show _=_;rw[c.out,decide_eq_true f,decide_eq_true g,decide_eq_true i,decide_eq_false k];simp
  have b:4096<H:=oO;go_enter Tryz.func37,Tryz.ntmps37;go_wp2;go_ret;exact⟨by rw[a.out];rfl,d.out⟩
 obtain⟨p,l⟩:∃p:Int,p=W* H:=⟨_,rfl⟩;have v:0<=p:=by rw[l];exact Int.mul_nonneg oO oO
 have x:p<=16777216:=by rw[l];exact Int.le_trans (Int.mul_le_mul_of_nonneg_right g oO) oO
 have o:W* H=p:=l.symm;have u:IntKind.i64.wrap p=p:=aG _ oO oO;rw[o]at c;clear l;by_cases n:p<=4194304;rotate_left
 ·have a:Hid (dW W H N=false):=by show _=_;rw[c.out,decide_eq_true f,decide_eq_true g,decide_eq_true i,decide_eq_true k,decide_eq_false n];simp
  have b:4194304<p:=oO;go_enter Tryz.func37,Tryz.ntmps37;go_wp2;go_ret;exact⟨by rw[a.out];rfl,d.out⟩
 by_cases j:(N:Int)=p;rotate_left
 ·have a:Hid (dW W H N=false):=by show _=_;rw[c.out,decide_eq_true f,decide_eq_true g,decide_eq_true i,decide_eq_true k,decide_eq_true n,decide_eq_false j];simp
  have b:((N:Int)==p)=false:=by rw[beq_eq_false_iff_ne];exact j
  go_enter Tryz.func37,Tryz.ntmps37;go_wp2;go_ret;exact⟨by rw[a.out];rfl,d.out⟩
 have a:Hid (dW W H N=true):=by show _=_;rw[c.out,decide_eq_true f,decide_eq_true g,decide_eq_true i,decide_eq_true k,decide_eq_true n,decide_eq_true j];simp
 have b:((N:Int)==p)=true:=by rw[beq_iff_eq];exact j
 clear j;go_enter Tryz.func37,Tryz.ntmps37;go_wp2;go_ret;exact⟨by rw[a.out];rfl,d.out⟩
def pH (n:Nat) (c:Bool) (i:Nat):Bool:=dN ((i+1:Nat):Int) c&&(ai (i+1) c==n)
theorem yZ (n:Nat) (c:Bool):cK n c=(List.range 32).any (pH n c):=rfl
theorem J7 {n:Nat} {c:Bool} {j:Nat} (a:j<32) (h:pH n c j=true):cK n c=true:=by
 rw[yZ,List.any_eq_true];exact⟨j,List.mem_range.2 a,h⟩
theorem Fz {n:Nat} {c:Bool} (h:∀i,i<32->pH n c i=false):cK n c=false:=by
 rw[yZ,List.any_eq_false];intro i a;rw[h i (List.mem_range.1 a)];decide
theorem cF (n:Nat) (c:Bool) (w:World) (hn:n<=4096):Calls Tryz.prog 38 #[.int .i64 n,.bool c] w λe w'=>e= .returned (.bool (cK n c))/\Below w.heap.size w w':=by
 go_enter Tryz.func38,Tryz.ntmps38;go_wp2;go_loopw [7] (λs wr=>∃j:Nat,j<=32/\s= .int .i64 j/\Hid (∀i,i<j->pH n c i=false)/\Hid (Below w.heap.size w wr)) (λs _=>32-(intOf s).toNat)
 case atStart=>exact⟨0,by omega,rfl,λi z=>absurd z oO,Below.refl _ _⟩
 case round=>
  obtain⟨j,H,rfl,A,hB⟩:=hrel;by_cases E:j<32
  ·obtain⟨k,t⟩:∃k,k=j+1:=⟨_,rfl⟩;have J:(j:Int)+1=(k:Int):=oO;have u:=eP wr k c;have m:Hid (∀W,Calls Tryz.prog 29 #[aP k c] W λe w'=>e= .returned (.bool (dN (k:Int) c))/\Below W.heap.size W w'):=λW=>eV k c W;have C:Hid (∀W,Calls Tryz.prog 36 #[aP k c] W λe w'=>e= .returned (.int .i64 ((ai k c:Nat):Int))/\Below W.heap.size W w'):=λW=>jX k c W oO;have q:Hid (pH n c j=(dN (k:Int) c&&(ai k c==n))):=by show _=_;rw[t];rfl
   have M:=(gf (L:=k) (c:=c) oO).2;have D:Hid (pH n c j=false->∀i,i<j+1->pH n c i=false):=by
    show _->_;intro h i z;rcases Nat.lt_or_ge i j with B|B
    ·exact A.out i B
    ·obtain rfl:i=j:=oO;exact h
   have N:(j:Int)<32:=oO;have K:=Lib.hid t;obtain⟨b,d⟩:=u.out _ (Below.refl _ _);generalize ai k c=S at*;clear t;cases g:dN (k:Int) c with
   |false=>
    have r:Hid (pH n c j=false):=by show _=_;rw[q.out,g,Bool.false_and]
    rw[g]at m;clear g q;go_wp2_with(go_at_call 29;refine(m.out _).mono ?_;rintro e l ⟨rfl,a⟩;have f:Hid (Below w.heap.size w l):=ae hB.out (cP a);clear a b d)
    exact⟨⟨j+1,by omega,by go_num,D.out r.out,f.out⟩,by simp[intOf];omega⟩
   |true=>
    have r:Hid (pH n c j=(S==n)):=by show _=_;rw[q.out,g,Bool.true_and]
    rw[g]at m;clear g q;by_cases o:S=n
    ·have x:Hid (cK n c=true):=by show _=_;exact J7 (j:=j) E (by rw[r.out,o];simp)
     have F:((S:Int)==(n:Int))=true:=by rw[o];simp
     clear o
     go_wp2_with(first
      |(go_at_call 29;refine(m.out _).mono ?_;rintro e l ⟨rfl,a⟩;have f:Hid (af (wr.alloc (bE k c)) l):=a;clear a b d;obtain⟨b,d⟩:=u.out _ f.out)
      |(go_at_call 36;refine(C.out _).mono ?_;rintro e v ⟨rfl,p⟩;have y:Hid (Below w.heap.size w v):=ae hB.out (cP (ae f.out p));clear p b d))
     go_ret;exact⟨by rw[x.out];rfl,y.out⟩
    ·have F:((S:Int)==(n:Int))=false:=by rw[beq_eq_false_iff_ne];omega
     have G:Hid (pH n c j=false):=by show _=_;rw[r.out,beq_eq_false_iff_ne];exact o
     clear o
     go_wp2_with(first
      |(go_at_call 29;refine(m.out _).mono ?_;rintro e l ⟨rfl,a⟩;have f:Hid (af (wr.alloc (bE k c)) l):=a;clear a b d;obtain⟨b,d⟩:=u.out _ f.out)
      |(go_at_call 36;refine(C.out _).mono ?_;rintro e v ⟨rfl,p⟩;have y:Hid (Below w.heap.size w v):=ae hB.out (cP (ae f.out p));clear p b d))
     exact⟨⟨j+1,by omega,by go_num,D.out G.out,y.out⟩,by simp[intOf];omega⟩
  ·obtain rfl:j=32:=oO;have x:Hid (cK n c=false):=Fz A.out;go_wp2;go_ret;exact⟨by rw[x.out];rfl,hB.out⟩
def uB (n C:Nat) (c:Bool) (d:List Bool) (i:Nat):Bool:=!(decide (ia C (i%n,i/n)<aM c))||(d.getD i false==(ia C (i%n,i/n)%2==0))
theorem AZ (n C:Nat) (c:Bool) (d:List Bool):gQ n C c d=(List.range (n* n)).all (uB n C c d):=rfl
theorem Ke {n C:Nat} {c:Bool} {d:List Bool} {j:Nat} (a:j<n* n) (h:uB n C c d j=false):gQ n C c d=false:=by
 rw[AZ,List.all_eq_false];exact⟨j,List.mem_range.2 a,by rw[h];decide⟩
theorem Ly {n C:Nat} {c:Bool} {d:List Bool} (h:∀i,i<n* n->uB n C c d i=true):gQ n C c d=true:=by
 rw[AZ,List.all_eq_true];intro i a;exact h i (List.mem_range.1 a)
theorem lE (n C m:Nat) (c:Bool) (H:Int) (A:Option Addr) (N q:Nat) (d:List Bool) (w:World) (K:m=aM c) (b4:1<=n) (hn:n<=4096) (b1:C<=4096) (L:N=n* n) (M:SR vB false w A N q d):
 Calls Tryz.prog 40 #[bO n c C m,cX n H A N q] w λe w'=>e= .returned (.bool (gQ n C c d))/\Below w.heap.size w w':=by
 have bb:=Lib.hid M;have a1:Hid (N=d.length):=M.hn;have bd:=Lib.hid K;have Q:=Lib.hid L;have b5:N<=16777216:=by rw[L];exact Nat.mul_le_mul hn hn
 have b6:m<=7:=by rw[K];cases c<;>decide
 clear M K L;obtain⟨k,S⟩:∃k,k=w.heap.size:=⟨_,rfl⟩;obtain⟨r,F⟩:∃r,r=w.heap.size+1:=⟨_,rfl⟩;obtain⟨f,l⟩:∃f,f=(w.alloc (.cells (aS n c C m) 71)).alloc (.cells (iX n H A N q) 28):=⟨_,rfl⟩;have o:Hid (Below w.heap.size w f):=by show Below _ _ _;rw[l];exact ah (ax _ _) _
 have bo:Hid (aa f k (aS n c C m) 71):=by
  show aa _ _ _ _;rw[l];have g:aa (w.alloc (.cells (aS n c C m) 71)) k (aS n c C m) 71:=aa.new _ _ _ _ S;exact g.below (ax _ _)
 have bq:Hid (aa f r (iX n H A N q) 28):=by show aa _ _ _ _;rw[l];exact aa.new _ _ _ _ (by simp[F])
 have z:Hid (∀W,af f W->(W.cell? ⟨k,0,none⟩=some (.int .i64 (n:Int))/\W.cell? ⟨k,1,none⟩=some (.bool c)/\W.cell? ⟨k,2,none⟩=some (.int .i64 (C:Int))/\W.cell? ⟨k,3,none⟩=some (.int .i64 (m:Int)))/\W.cell? ⟨r,0,none⟩=some (.int .i64 (n:Int))/\W.cell? ⟨r,2,none⟩=some (.slice A N q)):=by
  show∀W,_;intro W X;have g:=bo.out.below X;have Y:=bq.out.below X;exact⟨⟨g.cell 0 _ rfl,g.cell 1 _ rfl,g.cell 2 _ rfl,g.cell 3 _ rfl⟩,Y.cell 0 _ rfl,Y.cell 2 _ rfl⟩
 obtain⟨⟨Z,ab,ac,ad⟩,al,O⟩:=z.out f (Below.refl _ _);rw[l,F]at O;go_enter Tryz.func40,Tryz.ntmps40;go_wp2;simp only[<-F,<-l];simp only[<-S];clear l S F Z ab ac ad al O;go_loopw [11] (λP wr=>∃j:Nat,j<=N/\P= .int .i64 j/\Hid (∀i,i<j->uB n C c d i=true)/\Hid (af f wr)) (λP _=>N-(intOf P).toNat)
 case atStart=>exact⟨0,Nat.zero_le _,rfl,λi am=>absurd am oO,Below.refl _ _⟩
 case round=>
  obtain⟨j,b2,rfl,ap,hB⟩:=hrel;by_cases T:j<N
  ·obtain⟨av,rfl,a9,a2⟩:=bb.out.rd (by rw[<-a1.out];omega);have a3:=a2 j (by rw[<-a1.out];exact T);have bs:wr.cell? (av.add j)=some (.bool (d.getD j false)):=((o.out.trans (hB.out.mono o.out.size)).cell (p:=av.add j) (by rw[aL];exact a9)).trans a3;clear a2 a3 a9;obtain⟨x,B⟩:∃x,x=j%n:=⟨_,rfl⟩;obtain⟨y,D⟩:∃y,y=j/n:=⟨_,rfl⟩;have b7:x<n:=by rw[B];exact Nat.mod_lt _ oO
   have b8:y<n:=by rw[D];exact(Nat.div_lt_iff_lt_mul oO).2 (by rw[<-Q.out];exact T)
   have b9:¬n=0:=oO;have be:(j:Int)%(n:Int)=(x:Int):=by rw[B];simp
   have bf:(j:Int)/(n:Int)=(y:Int):=by rw[D];simp
   have ca:(j:Int).tmod (n:Int)=(x:Int):=by rw[Int.tmod_eq_emod_of_nonneg oO];exact be
   have cb:(j:Int).tdiv (n:Int)=(y:Int):=by rw[Int.tdiv_eq_ediv_of_nonneg oO];exact bf
   have b3:IntKind.i64.wrap (y:Int)=(y:Int):=aG _ oO oO;obtain⟨a,G⟩:∃a,a=ia C (x,y):=⟨_,rfl⟩;have ce:a<=10000:=by rw[G];unfold ia lq;simp only;omega
   have bt:Hid (∀W,Calls Tryz.prog 86 #[bO n c C m,.int .i64 x,.int .i64 y] W λe w'=>e= .returned (.int .i64 (a:Int))/\Below W.heap.size W w'):=λW=>by rw[G];exact sS n C m x y c W oO oO oO
   have a4:Hid (∀W,Calls Tryz.prog 87 #[.int .i64 a] W λe w'=>e= .returned (.bool (a%2==0))/\w'=W):=λW=>uA a W oO;have J:Hid (uB n C c d j=(!(decide (a<m))||(d.getD j false==(a%2==0)))):=by show _=_;unfold uB;rw[<-B,<-D,<-G,<-bd.out]
   have a5:Hid (uB n C c d j=true->∀i,i<j+1->uB n C c d i=true):=by
    show _->_;intro h i am;rcases Nat.lt_or_ge i j with g|g
    ·exact ap.out i g
    ·obtain rfl:i=j:=oO;exact h
   have bv:Hid (uB n C c d j=false->gQ n C c d=false):=λh=>Ke (by rw[<-Q.out];exact T) h;clear B D G;generalize uB n C c d j=E at*;generalize d.getD j false=b at*;generalize bz:(a%2==0)=par at*;clear bz;have ch:(j:Int)<(N:Int):=oO;have a6:Hid (af f wr.drew):=aj hB.out;go_wp2;clear bs;refine yO (af f) [1,2,3,4,5,6,7,8,9,0,10,0,11] a6.out ?_
   repeat refine zO z.out ?_
   refine zZ ?_;refine(bt.out _).mono ?_;rintro e a0 ⟨rfl,a7⟩;have s:Hid (af f a0):=ae a6.out a7;clear a7;refine⟨_,rfl,s.out,jO ?_⟩
   repeat refine zO z.out ?_
   refine ag ?_;obtain⟨⟨Z,ab,ac,ad⟩,al,O⟩:=z.out a0 s.out;by_cases U:a<m
   ·have bx:(a:Int)<(m:Int):=oO;have a8:Hid (E=(b==par)):=by show _=_;rw[J.out,decide_eq_true U];simp
    clear J;by_cases t:b=par
    ·have u:Hid (E=true):=by show _=_;rw[a8.out,t];simp
     subst t;go_wp2_with(go_at_call 87;refine(a4.out _).mono ?_;rintro e bi ⟨rfl,v⟩;rw[v];clear v)
     exact⟨⟨j+1,by omega,by go_num,a5.out u.out,s.out⟩,by simp[intOf];omega⟩
    ·have u:Hid (E=false):=by show _=_;rw[a8.out,beq_eq_false_iff_ne];exact t
     have ci:(b !=par)=true:=by rw[bne_iff_ne];exact t
     have co:(b==par)=false:=beq_eq_false_iff_ne.2 t;have V:=Lib.hid (bv.out u.out);go_wp2_with(go_at_call 87;refine(a4.out _).mono ?_;rintro e bi ⟨rfl,v⟩;rw[v];clear v)
     go_ret;exact⟨by rw[V.out];rfl,o.out.trans (s.out.mono o.out.size)⟩
   ·have bx:¬(a:Int)<(m:Int):=oO;have cp:m<=a:=oO;have ck:decide (a<m)=false:=by simp;omega
    have u:Hid (E=true):=by show _=_;rw[J.out,decide_eq_false U];rfl
    clear J U;go_wp2;exact⟨⟨j+1,by omega,by go_num,a5.out u.out,s.out⟩,by simp[intOf];omega⟩
  ·obtain rfl:N=j:=oO;have V:Hid (gQ n C c d=true):=Ly (by rw[<-Q.out];exact ap.out);go_wp2;go_ret;exact⟨by rw[V.out];rfl,o.out.trans (hB.out.mono o.out.size)⟩
theorem Ef {l x:List Bool} (hl:l.length=6) (c:x.length=6) (h:∀i,i<6->l.getD i false=x.getD i false):l=x:=by
 refine List.ext_getElem oO λi a b=>?_;have:=h i oO;simpa[List.getD,a,b]using this
theorem K6 {l:List Bool} (hl:l.length=6) (h:∀i,i<6->l.getD i false=true):(l==cQ)=true:=by
 rw[beq_iff_eq];refine Ef hl rfl λi a=>?_;rw[h i a];rcases i with _|_|_|_|_|_|i<;>first|rfl|omega
theorem LP {l:List Bool} (hl:l.length=6) (h:∀i,i<6->l.getD i false=false):(l==gS)=true:=by
 rw[beq_iff_eq];refine Ef hl rfl λi a=>?_;rw[h i a];rcases i with _|_|_|_|_|_|i<;>first|rfl|omega
theorem Mp {l:List Bool} {j:Nat} (a:j<6) (h:l.getD j false=false):(l==cQ)=false:=by
 rw[beq_eq_false_iff_ne];rintro rfl;rcases j with _|_|_|_|_|_|j<;>first|(exact absurd h oD)|omega
theorem MD {l:List Bool} {j:Nat} (a:j<6) (h:l.getD j false=true):(l==gS)=false:=by
 rw[beq_eq_false_iff_ne];rintro rfl;rcases j with _|_|_|_|_|_|j<;>first|(exact absurd h oD)|omega
theorem Lr {n C m:Nat} (d:m<=C) (hn:C+m<n) (e:1<=m) (f:n<=4096):(∀p∈bI C m,p.1<=4096/\p.2<=4096/\bW n p<n* n)/\∀p∈bg C m,p.1<=4096/\p.2<=4096/\bW n p<n* n:=by
 have hb:∀p:Pt,p.1<n->p.2<n->p.1<=4096/\p.2<=4096/\bW n p<n* n:=λp b c=>⟨by omega,by omega,iF b c⟩;constructor
 ·intro p a;unfold bI at a;simp only[List.mem_cons,List.not_mem_nil,or_false]at a;rcases a with rfl|rfl|rfl|rfl|rfl|rfl<;>exact hb _ (by simp only;omega) (by simp only;omega)
 ·intro p a;unfold bg at a;simp only[List.mem_cons,List.not_mem_nil,or_false]at a;rcases a with rfl|rfl|rfl|rfl|rfl|rfl<;>exact hb _ (by simp only;omega) (by simp only;omega)
theorem oy (n C m:Nat) (c:Bool) (H:Int) (A:Option Addr) (N q:Nat) (d:List Bool) (w:World) (V:m=aM c) (a2:m<=C) (hn:C+m<n) (al:n<=4096) (X:N=n* n) (bb:N<=4194304) (Y:SR vB false w A N q d):
 Calls Tryz.prog 41 #[bO n c C m,cX n H A N q] w λe w'=>e= .returned (.bool (nG n C c d))/\Below w.heap.size w w':=by
 have ca:5<=m:=by rw[V];cases c<;>decide
 obtain⟨bd,be⟩:=Lr (n:=n) a2 hn oO al;obtain⟨f,Q⟩:∃f,f=cE n d (bI C m):=⟨_,rfl⟩;obtain⟨g,S⟩:∃g,g=cE n d (bg C m):=⟨_,rfl⟩;have am:Hid (nG n C c d=((f==cQ)&&(g==gS))):=by show _=_;unfold nG;rw[Q,S,V]
 have bf:Hid (f.length=6):=by show _=_;rw[Q];unfold cE;rw[List.length_map];rfl
 have bi:Hid (g.length=6):=by show _=_;rw[S];unfold cE;rw[List.length_map];rfl
 have cb:Hid (∀W,Calls Tryz.prog 88 #[bO n c C m] W λe w'=>∃v u,e= .returned (.tuple #[v,u])/\Hid (SP w' v (bI C m))/\Hid (SP w' u (bg C m))/\Below W.heap.size W w'):=λW=>
  (pk n C m c W a2 oO ca).mono λe w' ⟨v,u,a,r,t,L⟩=>⟨v,u,a,r.1,t.1,L⟩
 have ce:Hid (∀W v,af w W->SP W v (bI C m)->Calls Tryz.prog 42 #[cX n H A N q,v] W λe w'=>∃db,e= .returned (.slice (some ⟨db,0,none⟩) 6 6)/\Hid (bu w' db f)/\Below W.heap.size W w'):=λW v z Z=>
  (mF n H A N q d _ v W al bb (Y.below z) Z (by show 6<=100000;decide) (λp ab=>by rw[X];exact bd p ab)).mono λe w' ⟨db,k,a,r,t,L⟩=>by
   obtain rfl:k=6:=r;rw[<-Q]at t;exact⟨db,a,t,L⟩
 have ch:Hid (∀W v,af w W->SP W v (bg C m)->Calls Tryz.prog 42 #[cX n H A N q,v] W λe w'=>∃db,e= .returned (.slice (some ⟨db,0,none⟩) 6 6)/\Hid (bu w' db g)/\Below W.heap.size W w'):=λW v z Z=>
  (mF n H A N q d _ v W al bb (Y.below z) Z (by show 6<=100000;decide) (λp ab=>by rw[X];exact be p ab)).mono λe w' ⟨db,k,a,r,t,L⟩=>by
   obtain rfl:k=6:=r;rw[<-S]at t;exact⟨db,a,t,L⟩
 clear Y V X bd be Q S;obtain⟨s,ap⟩:∃s,s=w.heap.size:=⟨_,rfl⟩;obtain⟨B,T⟩:∃B,B=w.heap.size+1:=⟨_,rfl⟩;obtain⟨b,M⟩:∃b,b=(w.alloc (.cells (aS n c C m) 71)).alloc (.cells (iX n H A N q) 28):=⟨_,rfl⟩;have o:Hid (Below w.heap.size w b):=by show Below _ _ _;rw[M];exact ah (ax _ _) _
 have ci:Hid (aa b s (aS n c C m) 71):=by
  show aa _ _ _ _;rw[M];have a:aa (w.alloc (.cells (aS n c C m) 71)) s (aS n c C m) 71:=aa.new _ _ _ _ ap;exact a.below (ax _ _)
 have ck:Hid (aa b B (iX n H A N q) 28):=by show aa _ _ _ _;rw[M];exact aa.new _ _ _ _ (by simp[T])
 have ac:Hid (∀W,af b W->(W.cell? ⟨s,0,none⟩=some (.int .i64 (n:Int))/\W.cell? ⟨s,1,none⟩=some (.bool c)/\W.cell? ⟨s,2,none⟩=some (.int .i64 (C:Int))/\W.cell? ⟨s,3,none⟩=some (.int .i64 (m:Int)))/\W.cell? ⟨B,0,none⟩=some (.int .i64 (n:Int))/\W.cell? ⟨B,1,none⟩=some (.int .i64 H)/\W.cell? ⟨B,2,none⟩=some (.slice A N q)):=by
  show∀W,_;intro W z;have a:=ci.out.below z;have r:=ck.out.below z;exact⟨⟨a.cell 0 _ rfl,a.cell 1 _ rfl,a.cell 2 _ rfl,a.cell 3 _ rfl⟩,r.cell 0 _ rfl,r.cell 1 _ rfl,r.cell 2 _ rfl⟩
 obtain⟨⟨a3,a4,a5,a6⟩,b5,b6,b7⟩:=ac.out b (Below.refl _ _);rw[M,ap]at a3 a4 a5 a6;go_enter Tryz.func41,Tryz.ntmps41
 go_wp2_with(first
  |(go_at_call 88;simp only[<-T,<-M];simp only[<-ap];refine(cb.out _).mono ?_;rintro e a7 ⟨v1,u1,rfl,bo,bq,bs⟩;have av:Hid (af b a7):=bs;obtain⟨-,D,E,F⟩:=ac.out a7 av.out;rw[T]at D E F;clear bs)
  |(go_at_call 42;refine(ce.out _ _ (o.out.trans (av.out.mono o.out.size)) bo.out).mono ?_;rintro e P ⟨db,rfl,bt,a0⟩;have co:Hid (af b P):=ae av.out a0;have bv:=Lib.hid (bq.out.below a0);clear a0))
 clear a3 a4 a5 a6 b5 b6 b7 D E F;have bx:Hid (af b P/\bu P db f/\SP P u1 (bg C m)):=⟨co.out,bt.out,bv.out⟩;clear bt bv bo bq;go_loopw [20] (λy wr=>∃j:Nat,j<=6/\y= .int .i64 j/\Hid (∀i,i<j->f.getD i false=true)/\Hid (af b wr/\bu wr db f/\SP wr u1 (bg C m))) (λy _=>6-(intOf y).toNat)
 case atStart=>exact⟨0,Nat.zero_le _,rfl,λi G=>absurd G oO,bx.out⟩
 case round=>
  clear bx;obtain⟨j,b8,rfl,J,hB⟩:=hrel;by_cases K:j<6
  ·have U:(j:Int)<6:=oO;have ad:=hB.out.2.1.cell (i:=j) (by rw[bf.out];exact K);obtain⟨x,l⟩:∃x,x=f.getD j false:=⟨_,rfl⟩;rw[<-l]at ad;cases x with
   |true=>
    have a1:Hid (∀i,i<j+1->f.getD i false=true):=by
     show∀i,_->_;intro i G;rcases Nat.lt_or_ge i j with a|a
     ·exact J.out i a
     ·obtain rfl:i=j:=oO;exact l.symm
    clear l;go_wp2;exact⟨⟨j+1,by omega,by go_num,a1.out,hB.out⟩,by simp[intOf];omega⟩
   |false=>
    have O:Hid (nG n C c d=false):=by show _=_;rw[am.out,Mp K l.symm];rfl
    clear l;go_wp2;go_ret;exact⟨by rw[O.out];rfl,o.out.trans (hB.out.1.mono o.out.size)⟩
  ·obtain⟨a8,cp⟩:∃a8:Nat,a8=6:=⟨_,rfl⟩;have cq:Hid ((f==cQ)=true):=K6 bf.out λi G=>J.out i oO;have U:¬(j:Int)<6:=oO;have bz:decide (j<6)=false:=by simp;omega
   obtain⟨-,D,E,F⟩:=ac.out wr hB.out.1;rw[T]at D E F;obtain⟨cv,b1⟩:∃x,x=wr:=⟨_,rfl⟩;rw[<-b1]at D E F hB⊢;clear b1 cp;go_wp2_with(go_at_call 42;refine(ch.out _ _ (o.out.trans (hB.out.1.mono o.out.size)) hB.out.2.2).mono ?_;rintro e a9 ⟨lb,rfl,b2,b3⟩;have b4:Hid (af b a9/\bu a9 lb g):=⟨ae hB.out.1 b3,b2.out⟩;clear b3 b2)
   clear D E F hB J b8 K U bz;go_loopw [31] (λy wr=>∃j:Nat,j<=6/\y= .int .i64 j/\Hid (∀i,i<j->g.getD i false=false)/\Hid (af b wr/\bu wr lb g)) (λy _=>6-(intOf y).toNat)
   case atStart=>exact⟨0,Nat.zero_le _,rfl,λi G=>absurd G oO,b4.out⟩
   case round=>
    clear b4;obtain⟨i,G,rfl,J,hB⟩:=hrel;by_cases K:i<6
    ·have U:(i:Int)<6:=oO;have ad:=hB.out.2.cell (i:=i) (by rw[bi.out];exact K);obtain⟨x,l⟩:∃x,x=g.getD i false:=⟨_,rfl⟩;rw[<-l]at ad;cases x with
     |false=>
      have a1:Hid (∀k,k<i+1->g.getD k false=false):=by
       show∀k,_->_;intro k b9;rcases Nat.lt_or_ge k i with a|a
       ·exact J.out k a
       ·obtain rfl:k=i:=oO;exact l.symm
      clear l;go_wp2;exact⟨⟨i+1,by omega,by go_num,a1.out,hB.out⟩,by simp[intOf];omega⟩
     |true=>
      have O:Hid (nG n C c d=false):=by show _=_;rw[am.out,MD K l.symm,Bool.and_false]
      clear l;go_wp2;go_ret;exact⟨by rw[O.out];rfl,o.out.trans (hB.out.1.mono o.out.size)⟩
    ·have cs:Hid ((g==gS)=true):=LP bi.out λk b9=>J.out k oO;have O:Hid (nG n C c d=true):=by show _=_;rw[am.out,cq.out,cs.out];rfl
     have U:¬(i:Int)<6:=oO;have bz:decide (i<6)=false:=by simp;omega
     go_wp2;go_ret;exact⟨by rw[O.out];rfl,o.out.trans (hB.out.1.mono o.out.size)⟩
def dC (w:World) (r:List UInt8×Int×Int) (e:Ending) (w':World):Prop:=∃A N a,e= .returned (.tuple #[.slice A N a,.int .i64 r.2.1,.int .i64 r.2.2])/\SR vU 0 w' A N a r.1/\Below w.heap.size w w'
theorem dC.err {w w':World} {r:List UInt8×Int×Int} {x:Int} (h:r=([],0,x)) (hb:Below w.heap.size w w'):dC w r (.returned (.tuple #[.slice none 0 0,.int .i64 0,.int .i64 x])) w':=by
 subst h;exact⟨none,0,0,rfl,⟨rfl,Nat.le_refl _,Nat.zero_le _,RG.dO _ _⟩,hb⟩
theorem SR.zN {w:World} {A:Option Addr} {n c:Nat} {l:List Nat} (h:SR vN 0 w A n c l):SR vI 0 w A n c (zN l):=by
 refine⟨by rw[wY];exact h.hn,h.hc,h.hm,λa=>?_⟩;rw[wY]at a;obtain⟨d,e,hl,hc⟩:=h.rd a;refine⟨d,e,hl,λj b=>?_⟩;rw[wY]at b;rw[hc j b,show(Go.Proofs.YtmnlkganmgcpbaaGreatDoor.zN l).getD j 0=((l.getD j 0:Nat):Int)from dh l j]
theorem SR.front {α:Type} {f:α->Value} {d:α} {w:World} {A:Option Addr} {n c k:Nat} {l:List α} (h:SR f d w A n c l) (i:k<=n):SR f d w A k c (l.take k):=by
 have hn:=h.hn;have m:=h.hc;refine⟨by rw[List.length_take];omega,by omega,h.hm,λa=>?_⟩;rw[List.length_take]at a;obtain⟨b,e,hl,hc⟩:=h.rd oO;refine⟨b,e,hl,λj g=>?_⟩;rw[List.length_take]at g;rw[hc j oO];simp[List.getD,List.getElem?_take,show j<k by omega]
theorem I4 {v a:List Nat} {k z:Nat} (h:¬(aQ (zN (v.take k)) z).2=0):mS v a k z=([],0,(aQ (zN (v.take k)) z).2):=by
 unfold mS;rw[if_pos h]
theorem Iq {v a:List Nat} {k z:Nat} (h:(aQ (zN (v.take k)) z).2=0) (b:¬(dQ (aQ (zN (v.take k)) z).1).2=0):mS v a k z=([],0,(dQ (aQ (zN (v.take k)) z).1).2):=by
 unfold mS;rw[if_neg (by rw[h];decide),if_pos b]
theorem I0 {v a:List Nat} {k z:Nat} (h:(aQ (zN (v.take k)) z).2=0) (b:(dQ (aQ (zN (v.take k)) z).1).2=0):mS v a k z=((dQ (aQ (zN (v.take k)) z).1).1,((dX a v).length:Int),0):=by
 unfold mS;rw[if_neg (by rw[h];decide),if_neg (by rw[b];decide)]
theorem Dh {a:Act} {d:Oper} {W:World} {x j:Operand} (f:d.op= .slice 64 x none (some j) none) {A:Option Addr} {n c:Nat} (g:a.eval x= .slice A n c) (k:Nat) (i:a.eval j= .int .i64 (k:Int)) (o:k<=c):
 (execOp a.eval d).run Tryz.prog W= .ok (.value (.slice A k c)) W:=by
 have b:=run_slice_h (P:=Tryz.prog) W 64 A n c DJ .i64 (k:Int) oO oO
 have l:A.map (λe=>e.add 0)=A:=by cases A with
  |none=>rfl
  |some e=>simp only[Option.map_some,Addr.add_zero']
 rw[FK]at b;simp only[Result.andThen_ok,Int.toNat_natCast,sliced,Nat.zero_mul,Nat.sub_zero,l,ite_self]at b;have m:=run_sliceAt_slice (P:=Tryz.prog) W 64 (.slice A n c) none (some (.int .i64 (k:Int))) none DJ;unfold execOp;simp only[f,g,i,Option.map_some,Option.map_none,Sem.run_bind,Sem.run_pure,Result.andThen_ok,m,b]
theorem qd (L:Nat) (c:Bool) (k n:Nat) (H:Int) (A:Option Addr) (N o:Nat) (d:List Bool) (w:World) (g:1<=L) (m:L<=32) (hc:c=true->L<=4) (hn:n=ai L c) (f6:1<=k) (fx:k<ay L c) (Y:N=n* n) (J:SR vB false w A N o d):
 Calls Tryz.prog 45 #[aP L c,cX n H A N o,.int .i64 k] w (dC w (gM n L c k d)):=by
 have ef:=tj (c:=c) g m hc;have f7:=fu L;have bv:=ld L c g m;have gs:=qF (c:=c) m;have eh:=rG L c;have ei:=pJ L c;have ek:=room_le (c:=c) m;have bx:n<=161:=by rw[hn];exact bv.2
 have bz:N<=4194304:=by rw[Y];exact Nat.le_trans (Nat.mul_le_mul bx bx) oD
 have dn:fJ 2 (2^aq L) (jU (aq L)) (ay L c-k) 1:=Fo (kW L) oO oO;have el:Hid (∀W,Calls Tryz.prog 33 #[aP L c] W λe w'=>e= .returned (.int .i64 ((aq L:Nat):Int))/\Below W.heap.size W w'):=λW=>lf L c W m;have em:Hid (∀W,Calls Tryz.prog 44 #[aP L c] W λe w'=>e= .returned (.int .i64 ((ay L c:Nat):Int))/\Below W.heap.size W w'):=λW=>j7 L c W m;have en:Hid (∀W,Calls Tryz.prog 46 #[aP L c] W λe w'=>∃v,e= .returned v/\Hid (SP w' v (bp L c))/\Below W.heap.size W w'):=λW=>(vt L c W m).mono λe w' ⟨v,g,i,K⟩=>⟨v,g,i.1,K⟩
 have b1:Hid (∀W v,af w W->SP W v (bp L c)->Calls Tryz.prog 42 #[cX n H A N o,v] W λe w'=>∃db k,e= .returned (.slice (some ⟨db,0,none⟩) k k)/\k=(bp L c).length/\Hid (SR vB false w' (some ⟨db,0,none⟩) k k (cE n d (bp L c)))/\Below W.heap.size W w'):=λW v t r=>
  (mF n H A N o d _ v W oO bz (J.below t) r oO (λp dz=>by
   have:=jk m dz;rw[<-hn]at this
   exact⟨by omega,by omega,by rw[Y];exact iF this.1 this.2⟩)).mono λe w' ⟨db,k,g,i,K,dE⟩=>⟨db,k,g,i,K.sr (by rw[i];unfold cE;rw[List.length_map]) oM,dE⟩
 have b2:Hid (∀W A b f,SR vB false W A b f ((cE n d (bp L c)).drop ((bp L c).length-ay L c* aq L))->Calls Tryz.prog 60 #[.slice A b f,.int .i64 ((aq L:Nat):Int),.bool false] W (RT vN 0 W (lO n L c d,0))):=by
  show∀W A b f,_->_;intro W A b f hs;have Z:=hs.hn;have be:(cE n d (bp L c)).length=(bp L c).length:=by unfold cE;rw[List.length_map]
  rw[List.length_drop,be]at Z;exact rI A b f (aq L) (ay L c) _ W oO oO oO oO hs
 have b3:Hid (∀W,Calls Tryz.prog 61 #[.int .i64 ((aq L:Nat):Int),.int .i64 ((ay L c-k:Nat):Int)] W λe w'=>e= .returned (.tuple #[dH 2 (2^aq L) (jU (aq L)) (ay L c-k) 1,.int .i64 0])/\Below W.heap.size W w'):=λW=>Bi (aq L) (ay L c-k) W (kW L) oO oO;have b4:Hid (∀W A b f,SR vN 0 W A b f (lO n L c d)->RD W A (zl (lO n L c d))->Calls Tryz.prog 66 #[dH 2 (2^aq L) (jU (aq L)) (ay L c-k) 1,.slice A b f,.slice none 0 0] W (oZ (2^aq L) (jU (aq L)) (ay L c-k) 1 (lO n L c d) W)):=by
  show∀W A b f,_->_->_;intro W A b f hs d0;have Z:=hs.hn;have be:(lO n L c d).length=ay L c:=dc _ _ _;exact uC 2 _ _ _ 1 _ b A f W dn Z (ni _ _ _) oO oO d0
 have eq:Hid (∀W A b f v,SR vN 0 W A b f v->Calls Tryz.prog 90 #[.slice A b f,.int .i64 ((aq L:Nat):Int)] W (RT vB false W (aQ (zN v) (aq L)))):=by
  show∀W A b f v,_->_;intro W A b f v hs;exact C7 A b f (aq L) (zN v) W hs.zN oO oO
 have ap:Hid (∀v,jV (2^aq L) (jU (aq L)) (ay L c-k) 1 (lO n L c d) (some v)->v.length=ay L c):=by
  show∀v,_->_;intro v r;rw[(r.2 v rfl).ln];exact dc _ _ _
 have X:Hid (∀v,jV (2^aq L) (jU (aq L)) (ay L c-k) 1 (lO n L c d) (some v)->gM n L c k d=mS v (lO n L c d) k (aq L)):=by
  show∀v,_->_;intro v r;unfold gM;rw[qB r]
 have b5:Hid (jV (2^aq L) (jU (aq L)) (ay L c-k) 1 (lO n L c d) none->gM n L c k d=([],0,17)):=by
  show _->_;intro r;unfold gM;rw[qB r]
 obtain⟨q,hq⟩:∃q,q=(bp L c).length-ay L c* aq L:=⟨_,rfl⟩;obtain⟨u,b6⟩:∃u,u=ay L c* aq L:=⟨_,rfl⟩;obtain⟨x,b7⟩:∃x,x=(bp L c).length:=⟨_,rfl⟩;obtain⟨par,ds⟩:∃par,par=ay L c-k:=⟨_,rfl⟩;have f8:q+u=x:=oO;have gw:par+k=ay L c:=oO;have gt:x<=20000:=oO;have f9:((ay L c:Nat):Int)* ((aq L:Nat):Int)=(u:Int):=by rw[b6];simp
 rw[<-hq]at b2;rw[<-ds]at b3 b4 ap X b5;rw[<-b7]at b1;clear hq b6 b7 ds eh ei ek dn ef bv g m hc hn Y J bz;generalize gM n L c k d=ab at*;generalize lO n L c d=fz at*;generalize cE n d (bp L c)=bf at*;generalize bp L c=gb at*;generalize er:2^aq L=S at*;generalize es:jU (aq L)=P at*;clear er es;generalize aq L=z at*;generalize ay L c=bi at*;have gc:(x:Int)-(u:Int)=(q:Int):=oO;have ge:(bi:Int)-(k:Int)=(par:Int):=oO;have gg:z<=12:=oO;have gi:k<=bi:=oO;have gv:u<=20000:=oO;have b8:q<=x:=oO;obtain⟨y,av⟩:∃y,y=w.heap.size:=⟨_,rfl⟩;obtain⟨B,a0⟩:∃B,B=w.heap.size+1:=⟨_,rfl⟩;obtain⟨a,E⟩:∃a,a=(w.alloc (bE L c)).alloc (.cells (iX n H A N o) 28):=⟨_,rfl⟩;have j:Hid (Below w.heap.size w a):=by show Below _ _ _;rw[E];exact ah (ax _ _) _
 have et:Hid (aa a y #[.int .i64 L,.bool c] 60):=by
  show aa _ _ _ _;rw[E];have g:aa (w.alloc (bE L c)) y #[.int .i64 L,.bool c] 60:=aa.new _ _ _ _ av;exact g.below (ax _ _)
 have ew:Hid (aa a B (iX n H A N o) 28):=by show aa _ _ _ _;rw[E];exact aa.new _ _ _ _ (by simp[a0])
 have M:Hid (∀W,af a W->(W.cell? ⟨y,0,none⟩=some (.int .i64 (L:Int))/\W.cell? ⟨y,1,none⟩=some (.bool c))/\W.cell? ⟨B,0,none⟩=some (.int .i64 (n:Int))/\W.cell? ⟨B,1,none⟩=some (.int .i64 H)/\W.cell? ⟨B,2,none⟩=some (.slice A N o)):=by
  show∀W,_;intro W t;have g:=et.out.below t;have i:=ew.out.below t;exact⟨⟨g.cell 0 _ rfl,g.cell 1 _ rfl⟩,i.cell 0 _ rfl,i.cell 1 _ rfl,i.cell 2 _ rfl⟩
 go_enter Tryz.func45,Tryz.ntmps45;go_wp2;simp only[<-a0,<-E];simp only[<-av];clear E a0 av;have a1:Hid (af a a.drew):=aj (Below.refl _ _);refine yO (af a) [1,3,0,2,4,0,5,6] a1.out ?_
 repeat refine zO M.out ?_
 refine zZ ?_;refine(em.out _).mono ?_;rintro e d1 ⟨rfl,b9⟩;have a2:Hid (af a d1):=ae a1.out b9;clear b9;refine⟨_,rfl,a2.out,jO ?_⟩;refine zZ ?_;refine(el.out _).mono ?_;rintro e bo ⟨rfl,ca⟩;have a3:Hid (af a bo):=ae a2.out ca;clear ca;refine⟨_,rfl,a3.out,jO ?_⟩
 repeat refine zO M.out ?_
 refine ag ?_;go_wp2;have a4:Hid (af a bo.drew):=aj a3.out;refine yO (af a) [1,2,0,3,4,0,5] a4.out ?_
 repeat refine zO M.out ?_
 refine zZ ?_;refine(en.out _).mono ?_;rintro e d2 ⟨f0,rfl,cb,ce⟩;have T:Hid (af a d2):=ae a4.out ce;clear ce;refine⟨_,rfl,T.out,jO ?_⟩;refine zZ ?_;refine(b1.out _ _ (j.out.trans (T.out.mono j.out.size)) cb.out).mono ?_;rintro e bq ⟨db,n4,rfl,ex,ch,ci⟩;subst ex;have ck:Hid (af a bq):=ae T.out ci;clear ci cb;refine⟨_,rfl,ck.out,jO ?_⟩
 repeat refine zO M.out ?_
 refine ag ?_;obtain⟨ac,a5⟩:∃ac,ac=if n4=q then some (⟨db,0,none⟩:Addr)else(some (⟨db,0,none⟩:Addr)).map (λd3=>d3.add q):=⟨_,rfl⟩
 obtain⟨O,a6⟩:∃O,O=n4-q:=⟨_,rfl⟩;have ey:Hid (SR vB false bq ac O O (bf.drop q)):=by show SR _ _ _ _ _ _ _;rw[a5,a6];exact ch.out.from q b8
 clear ch a1 a2 a3 T a4
 go_wp2_with(first
  |((with_reducible show wpList _ _ _ (⟨some 34,Op.slice 26 _ _ _ _,_,_,_,_⟩::_) _ _);refine ng rfl (uL (l:=bf) rfl rfl rfl q rfl b8) ?_;rw[<-a5,<-a6];clear a5 a6)
  |(go_at_call 60;refine(b2.out _ _ _ _ ey.out).mono ?_;rintro e d4 ⟨f1,rfl,co,cp⟩;obtain⟨f2,f3,f4,rfl,-,cq,cs⟩:=co.rd;have ez:=Lib.hid cq;have eA:=Lib.hid cs;have e0:Hid (af a d4):=ae ck.out cp;clear co cp cs cq)
  |(go_at_call 61;refine(b3.out _).mono ?_;rintro e d5 ⟨rfl,U⟩;have e9:Hid (af a d5):=ae e0.out U;have fb:=Lib.hid (ez.out.below U);have fc:=Lib.hid (eA.out.below U);clear U)
  |(go_at_call 66;refine(b4.out _ _ _ _ (fb.out.below (ax _ _)) (fc.out.below (ax _ _))).mono ?_;rintro e C cv;obtain⟨cx,J⟩:=oZ.nice cv;clear cv;have c2:Hid (af a C):=ae (ah e9.out _) cx;clear cx;rcases J with⟨v,ad,al,am,Q,D,cc,s,rfl,V,fd⟩|⟨s,rfl⟩)
  |((with_reducible show wpList _ _ _ (⟨some 65,Op.slice 64 _ _ _ _,_,_,_,_⟩::_) _ _);refine ng rfl (Dh rfl rfl k rfl (by have g:=ap.out v s.out;have i:=V.out.hn;have K:=V.out.hc;omega)) ?_)
  |(go_at_call 90;have fn:Hid (ak (C.alloc (.cells #[.slice ad al am,.slice Q D cc] 98)) C.heap.size [.slice ad al am,.slice Q D cc]):=ak.new C #[.slice ad al am,.slice Q D cc] 98 _ rfl;refine(eq.out _ _ _ _ (v.take k) ((V.out.front (by have g:=ap.out v s.out;have i:=V.out.hn;omega)).below (ax _ _))).mono ?_;rintro e bs ⟨f5,rfl,c3,a7⟩;obtain⟨d6,d7,d8,rfl,c4⟩:=c3.parts;have c5:=Lib.hid c4;have c6:Hid (af a bs):=ae (ah c2.out _) a7;have fo:=Lib.hid (fn.out.below a7);clear c3 a7 c4;have c7:Hid (¬(aQ (zN (v.take k)) z).2=0->ab=([],0,(aQ (zN (v.take k)) z).2)):=λh=>(X.out v s.out).trans (I4 h);have c8:Hid ((aQ (zN (v.take k)) z).2=0->¬(dQ (aQ (zN (v.take k)) z).1).2=0->ab=([],0,(dQ (aQ (zN (v.take k)) z).1).2)):=λh i=>(X.out v s.out).trans (Iq h i);have c9:Hid ((aQ (zN (v.take k)) z).2=0->(dQ (aQ (zN (v.take k)) z).1).2=0->ab=((dQ (aQ (zN (v.take k)) z).1).1,(D:Int),0)):=(λh i=>by rw[fd.out];exact(X.out v s.out).trans (I0 h i));generalize aQ (zN (v.take k)) z=d9 at*;obtain⟨bt,ea⟩:=d9;simp only at c7 c8 c9 c5⊢;by_cases F:ea=0)
  |(go_at_call 91;refine(Fk d6 d7 d8 bt bs c5.out).mono ?_;rintro e G ⟨v10,rfl,dv,a8⟩;obtain⟨go,gp,gq,rfl,dx⟩:=dv.parts;have dy:=Lib.hid dx;have a9:Hid (af a G):=ae c6.out a8;have fv:=Lib.hid (fo.out.below a8);clear dv a8 dx;have da:=Lib.hid (c8.out F);have dd:=Lib.hid (c9.out F);generalize dQ bt=ec at*;obtain⟨dl,ed⟩:=ec;simp only at da dd dy⊢;by_cases de:ed=0))
 ·subst F de;have bb:=Lib.hid (dd.out rfl);have fr:Hid (∀W,af G W->W.cell? ⟨C.heap.size,1,none⟩=some (.slice Q D cc)):=λW t=>(fv.out.below t).2 1 oS;have bd:Hid (af G G.drew):=aj (Below.refl _ _);refine yO (af G) [1,2,3,4,5,6,7] bd.out ?_
  repeat refine zO fr.out ?_
  refine ag ?_;go_wp2;go_ret3
  rw[bb.out];exact⟨_,_,_,rfl,dy.out.below bd.out,j.out.trans (((a9.out).trans (bd.out.mono a9.out.size)).mono j.out.size)⟩
 ·subst F;go_ret3
  exact dC.err (da.out de) (j.out.trans (a9.out.mono j.out.size))
 ·go_ret3
  exact dC.err (c7.out F) (j.out.trans (c6.out.mono j.out.size))
 ·have bb:=Lib.hid (b5.out s.out);go_ret3
  exact dC.err bb.out (j.out.trans ((ah c2.out _).mono j.out.size))
end
end Go.Proofs.YtmnlkganmgcpbaaGreatDoor
