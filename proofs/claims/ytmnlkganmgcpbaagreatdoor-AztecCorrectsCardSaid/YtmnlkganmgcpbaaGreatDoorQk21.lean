import Derived.Test.YtmnlkganmgcpbaaGreatDoorQk20
set_option maxRecDepth 100000
set_option maxHeartbeats 4000000
set_option linter.unusedVariables false
set_option linter.unusedSectionVars false
set_option linter.unusedSimpArgs false
namespace Go.Proofs.YtmnlkganmgcpbaaGreatDoor
section
open Go.RowKit
theorem G0 (w:World) (W H:Int) (A:Option Addr) (N a:Nat):Hid (∀V,af (w.alloc (.cells (fk W H A N a) 28)) V->V.cell? ⟨w.heap.size,0,none⟩=some (.int .i64 W)/\V.cell? ⟨w.heap.size,1,none⟩=some (.int .i64 H)/\V.cell? ⟨w.heap.size,2,none⟩=some (.slice A N a)):=by
 show∀V,_;intro V c;have h:aa (w.alloc (.cells (fk W H A N a) 28)) w.heap.size (fk W H A N a) 28:=aa.new _ _ _ _ rfl;have b:=h.below c;exact⟨b.cell 0 _ rfl,b.cell 1 _ rfl,b.cell 2 _ rfl⟩
theorem l9 (W H:Int) (A:Option Addr) (N m:Nat) (w:World) (q:N<=9223372036854775807):Calls Tryz.prog 37 #[fq W H A N m] w λe w'=>e= .returned (.bool (eD W H N))/\Below w.heap.size w w':=by
 have c:Hid (eD W H N=(decide (1<=W)&&decide (W<=4096)&&decide (1<=H)&&decide (H<=4096)&&decide (W* H<=4194304)&&decide ((N:Int)=W* H))):=rfl;have d:Hid (Below w.heap.size w (w.alloc (.cells (fk W H A N m) 28))):=ax _ _;obtain⟨r,s,t⟩:=(G0 w W H A N m).out _ (Below.refl _ _);by_cases f:1<=W;rotate_left
 ·have a:Hid (eD W H N=false):=by show _=_;rw[c.out,decide_eq_false f];simp
  have b:W<1:=oO;go_enter Tryz.func37,Tryz.ntmps37;go_wp2;go_ret;exact⟨by rw[a.out];rfl,d.out⟩
 by_cases g:W<=4096;rotate_left
 ·have a:Hid (eD W H N=false):=by show _=_;rw[c.out,decide_eq_true f,decide_eq_false g];simp
  have b:4096<W:=oO;go_enter Tryz.func37,Tryz.ntmps37;go_wp2;go_ret;exact⟨by rw[a.out];rfl,d.out⟩
 by_cases i:1<=H;rotate_left
 ·have a:Hid (eD W H N=false):=by show _=_;rw[c.out,decide_eq_true f,decide_eq_true g,decide_eq_false i];simp
  have b:H<1:=oO;go_enter Tryz.func37,Tryz.ntmps37;go_wp2;go_ret;exact⟨by rw[a.out];rfl,d.out⟩
 by_cases k:H<=4096;rotate_left
 ·have a:Hid (eD W H N=false):=by show _=_;rw[c.out,decide_eq_true f,decide_eq_true g,decide_eq_true i,decide_eq_false k];simp
  have b:4096<H:=oO;go_enter Tryz.func37,Tryz.ntmps37;go_wp2;go_ret;exact⟨by rw[a.out];rfl,d.out⟩
 obtain⟨p,l⟩:∃p:Int,p=W* H:=⟨_,rfl⟩;have v:0<=p:=by rw[l];exact Int.mul_nonneg oO oO
 have x:p<=16777216:=by rw[l];exact Int.le_trans (Int.mul_le_mul_of_nonneg_right g oO) oO
 have o:W* H=p:=l.symm;have u:IntKind.i64.wrap p=p:=aF _ oO oO;rw[o]at c;clear l;by_cases n:p<=4194304;rotate_left
 ·have a:Hid (eD W H N=false):=by show _=_;rw[c.out,decide_eq_true f,decide_eq_true g,decide_eq_true i,decide_eq_true k,decide_eq_false n];simp
  have b:4194304<p:=oO;go_enter Tryz.func37,Tryz.ntmps37;go_wp2;go_ret;exact⟨by rw[a.out];rfl,d.out⟩
 by_cases j:(N:Int)=p;rotate_left
 ·have a:Hid (eD W H N=false):=by show _=_;rw[c.out,decide_eq_true f,decide_eq_true g,decide_eq_true i,decide_eq_true k,decide_eq_true n,decide_eq_false j];simp
  have b:((N:Int)==p)=false:=by rw[beq_eq_false_iff_ne];exact j
  go_enter Tryz.func37,Tryz.ntmps37;go_wp2;go_ret;exact⟨by rw[a.out];rfl,d.out⟩
 have a:Hid (eD W H N=true):=by show _=_;rw[c.out,decide_eq_true f,decide_eq_true g,decide_eq_true i,decide_eq_true k,decide_eq_true n,decide_eq_true j];simp
 have b:((N:Int)==p)=true:=by rw[beq_iff_eq];exact j
 clear j;go_enter Tryz.func37,Tryz.ntmps37;go_wp2;go_ret;exact⟨by rw[a.out];rfl,d.out⟩
def qj (n:Nat) (c:Bool) (i:Nat):Bool:=fH ((i+1:Nat):Int) c&&(aj (i+1) c==n)
theorem zt (n:Nat) (c:Bool):dL n c=(List.range 32).any (qj n c):=rfl
theorem KI {n:Nat} {c:Bool} {j:Nat} (a:j<32) (h:qj n c j=true):dL n c=true:=by
 rw[zt,List.any_eq_true];exact⟨j,List.mem_range.2 a,h⟩
theorem Hj {n:Nat} {c:Bool} (h:∀i,i<32->qj n c i=false):dL n c=false:=by
 rw[zt,List.any_eq_false];intro i a;rw[h i (List.mem_range.1 a)];decide
theorem fS (n:Nat) (c:Bool) (w:World) (hn:n<=4096):Calls Tryz.prog 38 #[.int .i64 n,.bool c] w λe w'=>e= .returned (.bool (dL n c))/\Below w.heap.size w w':=by
 go_enter Tryz.func38,Tryz.ntmps38;go_wp2;go_loopw [7] (λs wr=>∃j:Nat,j<=32/\s= .int .i64 j/\Hid (∀i,i<j->qj n c i=false)/\Hid (Below w.heap.size w wr)) (λs _=>32-(intOf s).toNat)
 case atStart=>exact⟨0,by omega,rfl,λi z=>absurd z oO,Below.refl _ _⟩
 case round=>
  obtain⟨j,H,rfl,A,hB⟩:=hrel;by_cases E:j<32
  ·obtain⟨k,t⟩:∃k,k=j+1:=⟨_,rfl⟩;have J:(j:Int)+1=(k:Int):=oO;have u:=eK wr k c;have m:Hid (∀W,Calls Tryz.prog 29 #[bD k c] W λe w'=>e= .returned (.bool (fH (k:Int) c))/\Below W.heap.size W w'):=λW=>fQ k c W;have C:Hid (∀W,Calls Tryz.prog 36 #[bD k c] W λe w'=>e= .returned (.int .i64 ((aj k c:Nat):Int))/\Below W.heap.size W w'):=λW=>mJ k c W oO;have q:Hid (qj n c j=(fH (k:Int) c&&(aj k c==n))):=by show _=_;rw[t];rfl
   have M:=(gj (L:=k) (c:=c) oO).2;have D:Hid (qj n c j=false->∀i,i<j+1->qj n c i=false):=by
    show _->_;intro h i z;rcases Nat.lt_or_ge i j with B|B
    ·exact A.out i B
    ·obtain rfl:i=j:=oO;exact h
   have N:(j:Int)<32:=oO;have K:=Lib.hid t;obtain⟨b,d⟩:=u.out _ (Below.refl _ _);generalize aj k c=S at*;clear t;cases g:fH (k:Int) c with
   |false=>
    have r:Hid (qj n c j=false):=by show _=_;rw[q.out,g,Bool.false_and]
    rw[g]at m;clear g q;go_wp2_with(go_at_call 29;refine(m.out _).mono ?_;rintro e l ⟨rfl,a⟩;have f:Hid (Below w.heap.size w l):=ae hB.out (cH a);clear a b d)
    exact⟨⟨j+1,by omega,by go_num,D.out r.out,f.out⟩,by simp[intOf];omega⟩
   |true=>
    have r:Hid (qj n c j=(S==n)):=by show _=_;rw[q.out,g,Bool.true_and]
    rw[g]at m;clear g q;by_cases o:S=n
    ·have x:Hid (dL n c=true):=by show _=_;exact KI (j:=j) E (by rw[r.out,o];simp)
     have F:((S:Int)==(n:Int))=true:=by rw[o];simp
     clear o
     go_wp2_with(first
      |(go_at_call 29;refine(m.out _).mono ?_;rintro e l ⟨rfl,a⟩;have f:Hid (af (wr.alloc (bC k c)) l):=a;clear a b d;obtain⟨b,d⟩:=u.out _ f.out)
      |(go_at_call 36;refine(C.out _).mono ?_;rintro e v ⟨rfl,p⟩;have y:Hid (Below w.heap.size w v):=ae hB.out (cH (ae f.out p));clear p b d))
     go_ret;exact⟨by rw[x.out];rfl,y.out⟩
    ·have F:((S:Int)==(n:Int))=false:=by rw[beq_eq_false_iff_ne];omega
     have G:Hid (qj n c j=false):=by show _=_;rw[r.out,beq_eq_false_iff_ne];exact o
     clear o
     go_wp2_with(first
      |(go_at_call 29;refine(m.out _).mono ?_;rintro e l ⟨rfl,a⟩;have f:Hid (af (wr.alloc (bC k c)) l):=a;clear a b d;obtain⟨b,d⟩:=u.out _ f.out)
      |(go_at_call 36;refine(C.out _).mono ?_;rintro e v ⟨rfl,p⟩;have y:Hid (Below w.heap.size w v):=ae hB.out (cH (ae f.out p));clear p b d))
     exact⟨⟨j+1,by omega,by go_num,D.out G.out,y.out⟩,by simp[intOf];omega⟩
  ·obtain rfl:j=32:=oO;have x:Hid (dL n c=false):=Hj A.out;go_wp2;go_ret;exact⟨by rw[x.out];rfl,hB.out⟩
def uN (n C:Nat) (c:Bool) (d:List Bool) (i:Nat):Bool:=!(decide (gT C (i%n,i/n)<aN c))||(d.getD i false==(gT C (i%n,i/n)%2==0))
theorem B9 (n C:Nat) (c:Bool) (d:List Bool):jf n C c d=(List.range (n* n)).all (uN n C c d):=rfl
theorem Jn {n C:Nat} {c:Bool} {d:List Bool} {j:Nat} (a:j<n* n) (h:uN n C c d j=false):jf n C c d=false:=by
 rw[B9,List.all_eq_false];exact⟨j,List.mem_range.2 a,by rw[h];decide⟩
theorem Ml {n C:Nat} {c:Bool} {d:List Bool} (h:∀i,i<n* n->uN n C c d i=true):jf n C c d=true:=by
 rw[B9,List.all_eq_true];intro i a;exact h i (List.mem_range.1 a)
theorem uA (n C m:Nat) (c:Bool) (H:Int) (A:Option Addr) (N q:Nat) (d:List Bool) (w:World) (K:m=aN c) (b3:1<=n) (hn:n<=4096) (bz:C<=4096) (L:N=n* n) (M:SR vB false w A N q d):
 Calls Tryz.prog 40 #[cY n c C m,fq n H A N q] w λe w'=>e= .returned (.bool (jf n C c d))/\Below w.heap.size w w':=by
 have a9:=Lib.hid M;have a0:Hid (N=d.length):=M.hn;have bb:=Lib.hid K;have Q:=Lib.hid L;have b4:N<=16777216:=by rw[L];exact Nat.mul_le_mul hn hn
 have b5:m<=7:=by rw[K];cases c<;>decide
 clear M K L;obtain⟨k,S⟩:∃k,k=w.heap.size:=⟨_,rfl⟩;obtain⟨r,F⟩:∃r,r=w.heap.size+1:=⟨_,rfl⟩;obtain⟨f,l⟩:∃f,f=(w.alloc (.cells (bZ n c C m) 71)).alloc (.cells (fk n H A N q) 28):=⟨_,rfl⟩;have o:Hid (Below w.heap.size w f):=by show Below _ _ _;rw[l];exact ah (ax _ _) _
 have bi:Hid (aa f k (bZ n c C m) 71):=by
  show aa _ _ _ _;rw[l];have g:aa (w.alloc (.cells (bZ n c C m) 71)) k (bZ n c C m) 71:=aa.new _ _ _ _ S;exact g.below (ax _ _)
 have bo:Hid (aa f r (fk n H A N q) 28):=by show aa _ _ _ _;rw[l];exact aa.new _ _ _ _ (by simp[F])
 have z:Hid (∀W,af f W->(W.cell? ⟨k,0,none⟩=some (.int .i64 (n:Int))/\W.cell? ⟨k,1,none⟩=some (.bool c)/\W.cell? ⟨k,2,none⟩=some (.int .i64 (C:Int))/\W.cell? ⟨k,3,none⟩=some (.int .i64 (m:Int)))/\W.cell? ⟨r,0,none⟩=some (.int .i64 (n:Int))/\W.cell? ⟨r,2,none⟩=some (.slice A N q)):=by
  show∀W,_;intro W X;have g:=bi.out.below X;have Y:=bo.out.below X;exact⟨⟨g.cell 0 _ rfl,g.cell 1 _ rfl,g.cell 2 _ rfl,g.cell 3 _ rfl⟩,Y.cell 0 _ rfl,Y.cell 2 _ rfl⟩
 obtain⟨⟨Z,ab,ac,ad⟩,k0,O⟩:=z.out f (Below.refl _ _);rw[l,F]at O;go_enter Tryz.func40,Tryz.ntmps40;go_wp2;simp only[<-F,<-l];simp only[<-S];clear l S F Z ab ac ad k0 O;go_loopw [11] (λP wr=>∃j:Nat,j<=N/\P= .int .i64 j/\Hid (∀i,i<j->uN n C c d i=true)/\Hid (af f wr)) (λP _=>N-(intOf P).toNat)
 case atStart=>exact⟨0,Nat.zero_le _,rfl,λi al=>absurd al oO,Below.refl _ _⟩
 case round=>
  obtain⟨j,b1,rfl,am,hB⟩:=hrel;by_cases T:j<N
  ·obtain⟨ap,rfl,a8,a1⟩:=a9.out.rd (by rw[<-a0.out];omega);have a2:=a1 j (by rw[<-a0.out];exact T);have bq:wr.cell? (ap.add j)=some (.bool (d.getD j false)):=((o.out.trans (hB.out.mono o.out.size)).cell (p:=ap.add j) (by rw[aJ];exact a8)).trans a2;clear a1 a2 a8;obtain⟨x,B⟩:∃x,x=j%n:=⟨_,rfl⟩;obtain⟨y,D⟩:∃y,y=j/n:=⟨_,rfl⟩;have b6:x<n:=by rw[B];exact Nat.mod_lt _ oO
   have b7:y<n:=by rw[D];exact(Nat.div_lt_iff_lt_mul oO).2 (by rw[<-Q.out];exact T)
   have b8:¬n=0:=oO;have bd:(j:Int)%(n:Int)=(x:Int):=by rw[B];simp
   have be:(j:Int)/(n:Int)=(y:Int):=by rw[D];simp
   have b9:(j:Int).tmod (n:Int)=(x:Int):=by rw[Int.tmod_eq_emod_of_nonneg oO];exact bd
   have ca:(j:Int).tdiv (n:Int)=(y:Int):=by rw[Int.tdiv_eq_ediv_of_nonneg oO];exact be
   have b2:IntKind.i64.wrap (y:Int)=(y:Int):=aF _ oO oO;obtain⟨a,G⟩:∃a,a=gT C (x,y):=⟨_,rfl⟩;have cb:a<=10000:=by rw[G];unfold gT lM;simp only;omega
   have bs:Hid (∀W,Calls Tryz.prog 86 #[cY n c C m,.int .i64 x,.int .i64 y] W λe w'=>e= .returned (.int .i64 (a:Int))/\Below W.heap.size W w'):=λW=>by rw[G];exact tL n C m x y c W oO oO oO
   have a3:Hid (∀W,Calls Tryz.prog 87 #[.int .i64 a] W λe w'=>e= .returned (.bool (a%2==0))/\w'=W):=λW=>uW a W oO;have J:Hid (uN n C c d j=(!(decide (a<m))||(d.getD j false==(a%2==0)))):=by show _=_;unfold uN;rw[<-B,<-D,<-G,<-bb.out]
   have a4:Hid (uN n C c d j=true->∀i,i<j+1->uN n C c d i=true):=by
    show _->_;intro h i al;rcases Nat.lt_or_ge i j with g|g
    ·exact am.out i g
    ·obtain rfl:i=j:=oO;exact h
   have bt:Hid (uN n C c d j=false->jf n C c d=false):=λh=>Jn (by rw[<-Q.out];exact T) h;clear B D G;generalize uN n C c d j=E at*;generalize d.getD j false=b at*;generalize bx:(a%2==0)=par at*;clear bx;have ce:(j:Int)<(N:Int):=oO;have a5:Hid (af f wr.drew):=ai hB.out;go_wp2;clear bq;refine yO (af f) [1,2,3,4,5,6,7,8,9,0,10,0,11] a5.out ?_
   repeat refine zO z.out ?_
   refine zZ ?_;refine(bs.out _).mono ?_;rintro e av ⟨rfl,a6⟩;have s:Hid (af f av):=ae a5.out a6;clear a6;refine⟨_,rfl,s.out,jO ?_⟩
   repeat refine zO z.out ?_
   refine ag ?_;obtain⟨⟨Z,ab,ac,ad⟩,k0,O⟩:=z.out av s.out;by_cases U:a<m
   ·have bv:(a:Int)<(m:Int):=oO;have a7:Hid (E=(b==par)):=by show _=_;rw[J.out,decide_eq_true U];simp
    clear J;by_cases t:b=par
    ·have u:Hid (E=true):=by show _=_;rw[a7.out,t];simp
     subst t;go_wp2_with(go_at_call 87;refine(a3.out _).mono ?_;rintro e bf ⟨rfl,v⟩;rw[v];clear v)
     exact⟨⟨j+1,by omega,by go_num,a4.out u.out,s.out⟩,by simp[intOf];omega⟩
    ·have u:Hid (E=false):=by show _=_;rw[a7.out,beq_eq_false_iff_ne];exact t
     have ch:(b !=par)=true:=by rw[bne_iff_ne];exact t
     have ck:(b==par)=false:=beq_eq_false_iff_ne.2 t;have V:=Lib.hid (bt.out u.out);go_wp2_with(go_at_call 87;refine(a3.out _).mono ?_;rintro e bf ⟨rfl,v⟩;rw[v];clear v)
     go_ret;exact⟨by rw[V.out];rfl,o.out.trans (s.out.mono o.out.size)⟩
   ·have bv:¬(a:Int)<(m:Int):=oO;have co:m<=a:=oO;have ci:decide (a<m)=false:=by simp;omega
    have u:Hid (E=true):=by show _=_;rw[J.out,decide_eq_false U];rfl
    clear J U;go_wp2;exact⟨⟨j+1,by omega,by go_num,a4.out u.out,s.out⟩,by simp[intOf];omega⟩
  ·obtain rfl:N=j:=oO;have V:Hid (jf n C c d=true):=Ml (by rw[<-Q.out];exact am.out);go_wp2;go_ret;exact⟨by rw[V.out];rfl,o.out.trans (hB.out.mono o.out.size)⟩
theorem Ea {l x:List Bool} (hl:l.length=6) (c:x.length=6) (h:∀i,i<6->l.getD i false=x.getD i false):l=x:=by
 refine List.ext_getElem oO λi a b=>?_;have:=h i oO;simpa[List.getD,a,b]using this
theorem LL {l:List Bool} (hl:l.length=6) (h:∀i,i<6->l.getD i false=true):(l==gP)=true:=by
 rw[beq_iff_eq];refine Ea hl rfl λi a=>?_;rw[h i a];rcases i with _|_|_|_|_|_|i<;>first|rfl|omega
theorem LK {l:List Bool} (hl:l.length=6) (h:∀i,i<6->l.getD i false=false):(l==kv)=true:=by
 rw[beq_iff_eq];refine Ea hl rfl λi a=>?_;rw[h i a];rcases i with _|_|_|_|_|_|i<;>first|rfl|omega
theorem MV {l:List Bool} {j:Nat} (a:j<6) (h:l.getD j false=false):(l==gP)=false:=by
 rw[beq_eq_false_iff_ne];rintro rfl;rcases j with _|_|_|_|_|_|j<;>first|(exact absurd h oD)|omega
theorem MJ {l:List Bool} {j:Nat} (a:j<6) (h:l.getD j false=true):(l==kv)=false:=by
 rw[beq_eq_false_iff_ne];rintro rfl;rcases j with _|_|_|_|_|_|j<;>first|(exact absurd h oD)|omega
theorem K7 {n C m:Nat} (d:m<=C) (hn:C+m<n) (e:1<=m) (f:n<=4096):(∀p∈bG C m,p.1<=4096/\p.2<=4096/\bu n p<n* n)/\∀p∈ba C m,p.1<=4096/\p.2<=4096/\bu n p<n* n:=by
 have hb:∀p:Pt,p.1<n->p.2<n->p.1<=4096/\p.2<=4096/\bu n p<n* n:=λp b c=>⟨by omega,by omega,iD b c⟩;constructor
 ·intro p a;unfold bG at a;simp only[List.mem_cons,List.not_mem_nil,or_false]at a;rcases a with rfl|rfl|rfl|rfl|rfl|rfl<;>exact hb _ (by simp only;omega) (by simp only;omega)
 ·intro p a;unfold ba at a;simp only[List.mem_cons,List.not_mem_nil,or_false]at a;rcases a with rfl|rfl|rfl|rfl|rfl|rfl<;>exact hb _ (by simp only;omega) (by simp only;omega)
theorem BY (n C m:Nat) (c:Bool) (H:Int) (A:Option Addr) (N q:Nat) (d:List Bool) (w:World) (V:m=aN c) (a2:m<=C) (hn:C+m<n) (al:n<=4096) (X:N=n* n) (bb:N<=4194304) (Y:SR vB false w A N q d):
 Calls Tryz.prog 41 #[cY n c C m,fq n H A N q] w λe w'=>e= .returned (.bool (qa n C c d))/\Below w.heap.size w w':=by
 have b9:5<=m:=by rw[V];cases c<;>decide
 obtain⟨bd,be⟩:=K7 (n:=n) a2 hn oO al;obtain⟨f,Q⟩:∃f,f=cA n d (bG C m):=⟨_,rfl⟩;obtain⟨g,S⟩:∃g,g=cA n d (ba C m):=⟨_,rfl⟩;have am:Hid (qa n C c d=((f==gP)&&(g==kv))):=by show _=_;unfold qa;rw[Q,S,V]
 have bf:Hid (f.length=6):=by show _=_;rw[Q];unfold cA;rw[List.length_map];rfl
 have bi:Hid (g.length=6):=by show _=_;rw[S];unfold cA;rw[List.length_map];rfl
 have ca:Hid (∀W,Calls Tryz.prog 88 #[cY n c C m] W λe w'=>∃v u,e= .returned (.tuple #[v,u])/\Hid (SP w' v (bG C m))/\Hid (SP w' u (ba C m))/\Below W.heap.size W w'):=λW=>
  (pz n C m c W a2 oO b9).mono λe w' ⟨v,u,a,r,t,L⟩=>⟨v,u,a,r.1,t.1,L⟩
 have cb:Hid (∀W v,af w W->SP W v (bG C m)->Calls Tryz.prog 42 #[fq n H A N q,v] W λe w'=>∃db,e= .returned (.slice (some ⟨db,0,none⟩) 6 6)/\Hid (bh w' db f)/\Below W.heap.size W w'):=λW v z Z=>
  (rW n H A N q d _ v W al bb (Y.below z) Z (by show 6<=100000;decide) (λp ab=>by rw[X];exact bd p ab)).mono λe w' ⟨db,k,a,r,t,L⟩=>by
   obtain rfl:k=6:=r;rw[<-Q]at t;exact⟨db,a,t,L⟩
 have ce:Hid (∀W v,af w W->SP W v (ba C m)->Calls Tryz.prog 42 #[fq n H A N q,v] W λe w'=>∃db,e= .returned (.slice (some ⟨db,0,none⟩) 6 6)/\Hid (bh w' db g)/\Below W.heap.size W w'):=λW v z Z=>
  (rW n H A N q d _ v W al bb (Y.below z) Z (by show 6<=100000;decide) (λp ab=>by rw[X];exact be p ab)).mono λe w' ⟨db,k,a,r,t,L⟩=>by
   obtain rfl:k=6:=r;rw[<-S]at t;exact⟨db,a,t,L⟩
 clear Y V X bd be Q S;obtain⟨s,ap⟩:∃s,s=w.heap.size:=⟨_,rfl⟩;obtain⟨B,T⟩:∃B,B=w.heap.size+1:=⟨_,rfl⟩;obtain⟨b,M⟩:∃b,b=(w.alloc (.cells (bZ n c C m) 71)).alloc (.cells (fk n H A N q) 28):=⟨_,rfl⟩;have o:Hid (Below w.heap.size w b):=by show Below _ _ _;rw[M];exact ah (ax _ _) _
 have ch:Hid (aa b s (bZ n c C m) 71):=by
  show aa _ _ _ _;rw[M];have a:aa (w.alloc (.cells (bZ n c C m) 71)) s (bZ n c C m) 71:=aa.new _ _ _ _ ap;exact a.below (ax _ _)
 have ci:Hid (aa b B (fk n H A N q) 28):=by show aa _ _ _ _;rw[M];exact aa.new _ _ _ _ (by simp[T])
 have ac:Hid (∀W,af b W->(W.cell? ⟨s,0,none⟩=some (.int .i64 (n:Int))/\W.cell? ⟨s,1,none⟩=some (.bool c)/\W.cell? ⟨s,2,none⟩=some (.int .i64 (C:Int))/\W.cell? ⟨s,3,none⟩=some (.int .i64 (m:Int)))/\W.cell? ⟨B,0,none⟩=some (.int .i64 (n:Int))/\W.cell? ⟨B,1,none⟩=some (.int .i64 H)/\W.cell? ⟨B,2,none⟩=some (.slice A N q)):=by
  show∀W,_;intro W z;have a:=ch.out.below z;have r:=ci.out.below z;exact⟨⟨a.cell 0 _ rfl,a.cell 1 _ rfl,a.cell 2 _ rfl,a.cell 3 _ rfl⟩,r.cell 0 _ rfl,r.cell 1 _ rfl,r.cell 2 _ rfl⟩
 obtain⟨⟨a3,a4,a5,a6⟩,k0,b5,b6⟩:=ac.out b (Below.refl _ _);rw[M,ap]at a3 a4 a5 a6;go_enter Tryz.func41,Tryz.ntmps41
 go_wp2_with(first
  |(go_at_call 88;simp only[<-T,<-M];simp only[<-ap];refine(ca.out _).mono ?_;rintro e a7 ⟨v1,u1,rfl,bo,bq,bs⟩;have av:Hid (af b a7):=bs;obtain⟨-,D,E,F⟩:=ac.out a7 av.out;rw[T]at D E F;clear bs)
  |(go_at_call 42;refine(cb.out _ _ (o.out.trans (av.out.mono o.out.size)) bo.out).mono ?_;rintro e P ⟨db,rfl,bt,a0⟩;have ck:Hid (af b P):=ae av.out a0;have bv:=Lib.hid (bq.out.below a0);clear a0))
 clear a3 a4 a5 a6 k0 b5 b6 D E F;have bx:Hid (af b P/\bh P db f/\SP P u1 (ba C m)):=⟨ck.out,bt.out,bv.out⟩;clear bt bv bo bq;go_loopw [20] (λy wr=>∃j:Nat,j<=6/\y= .int .i64 j/\Hid (∀i,i<j->f.getD i false=true)/\Hid (af b wr/\bh wr db f/\SP wr u1 (ba C m))) (λy _=>6-(intOf y).toNat)
 case atStart=>exact⟨0,Nat.zero_le _,rfl,λi G=>absurd G oO,bx.out⟩
 case round=>
  clear bx;obtain⟨j,b7,rfl,J,hB⟩:=hrel;by_cases K:j<6
  ·have U:(j:Int)<6:=oO;have ad:=hB.out.2.1.cell (i:=j) (by rw[bf.out];exact K);obtain⟨x,l⟩:∃x,x=f.getD j false:=⟨_,rfl⟩;rw[<-l]at ad;cases x with
   |true=>
    have a1:Hid (∀i,i<j+1->f.getD i false=true):=by
     show∀i,_->_;intro i G;rcases Nat.lt_or_ge i j with a|a
     ·exact J.out i a
     ·obtain rfl:i=j:=oO;exact l.symm
    clear l;go_wp2;exact⟨⟨j+1,by omega,by go_num,a1.out,hB.out⟩,by simp[intOf];omega⟩
   |false=>
    have O:Hid (qa n C c d=false):=by show _=_;rw[am.out,MV K l.symm];rfl
    clear l;go_wp2;go_ret;exact⟨by rw[O.out];rfl,o.out.trans (hB.out.1.mono o.out.size)⟩
  ·obtain⟨a8,co⟩:∃a8:Nat,a8=6:=⟨_,rfl⟩;have cp:Hid ((f==gP)=true):=LL bf.out λi G=>J.out i oO;have U:¬(j:Int)<6:=oO;have bz:decide (j<6)=false:=by simp;omega
   obtain⟨-,D,E,F⟩:=ac.out wr hB.out.1;rw[T]at D E F;obtain⟨cs,b1⟩:∃x,x=wr:=⟨_,rfl⟩;rw[<-b1]at D E F hB⊢;clear b1 co;go_wp2_with(go_at_call 42;refine(ce.out _ _ (o.out.trans (hB.out.1.mono o.out.size)) hB.out.2.2).mono ?_;rintro e a9 ⟨lb,rfl,b2,b3⟩;have b4:Hid (af b a9/\bh a9 lb g):=⟨ae hB.out.1 b3,b2.out⟩;clear b3 b2)
   clear D E F hB J b7 K U bz;go_loopw [31] (λy wr=>∃j:Nat,j<=6/\y= .int .i64 j/\Hid (∀i,i<j->g.getD i false=false)/\Hid (af b wr/\bh wr lb g)) (λy _=>6-(intOf y).toNat)
   case atStart=>exact⟨0,Nat.zero_le _,rfl,λi G=>absurd G oO,b4.out⟩
   case round=>
    clear b4;obtain⟨i,G,rfl,J,hB⟩:=hrel;by_cases K:i<6
    ·have U:(i:Int)<6:=oO;have ad:=hB.out.2.cell (i:=i) (by rw[bi.out];exact K);obtain⟨x,l⟩:∃x,x=g.getD i false:=⟨_,rfl⟩;rw[<-l]at ad;cases x with
     |false=>
      have a1:Hid (∀k,k<i+1->g.getD k false=false):=by
       show∀k,_->_;intro k b8;rcases Nat.lt_or_ge k i with a|a
       ·exact J.out k a
       ·obtain rfl:k=i:=oO;exact l.symm
      clear l;go_wp2;exact⟨⟨i+1,by omega,by go_num,a1.out,hB.out⟩,by simp[intOf];omega⟩
     |true=>
      have O:Hid (qa n C c d=false):=by show _=_;rw[am.out,MJ K l.symm,Bool.and_false]
      clear l;go_wp2;go_ret;exact⟨by rw[O.out];rfl,o.out.trans (hB.out.1.mono o.out.size)⟩
    ·have cq:Hid ((g==kv)=true):=LK bi.out λk b8=>J.out k oO;have O:Hid (qa n C c d=true):=by show _=_;rw[am.out,cp.out,cq.out];rfl
     have U:¬(i:Int)<6:=oO;have bz:decide (i<6)=false:=by simp;omega
     go_wp2;go_ret;exact⟨by rw[O.out];rfl,o.out.trans (hB.out.1.mono o.out.size)⟩
def gO (w:World) (r:List UInt8×Int×Int) (e:Ending) (w':World):Prop:=∃A N a,e= .returned (.tuple #[.slice A N a,.int .i64 r.2.1,.int .i64 r.2.2])/\SR vU 0 w' A N a r.1/\Below w.heap.size w w'
theorem gO.err {w w':World} {r:List UInt8×Int×Int} {x:Int} (h:r=([],0,x)) (hb:Below w.heap.size w w'):gO w r (.returned (.tuple #[.slice none 0 0,.int .i64 0,.int .i64 x])) w':=by
 subst h;exact⟨none,0,0,rfl,⟨rfl,Nat.le_refl _,Nat.zero_le _,RG.dI _ _⟩,hb⟩
theorem SR.zN {w:World} {A:Option Addr} {n c:Nat} {l:List Nat} (h:SR vN 0 w A n c l):SR vI 0 w A n c (zN l):=by
 refine⟨by rw[xz];exact h.hn,h.hc,h.hm,λa=>?_⟩;rw[xz]at a;obtain⟨d,e,hl,hc⟩:=h.rd a;refine⟨d,e,hl,λj b=>?_⟩;rw[xz]at b;rw[hc j b,show(Go.Proofs.YtmnlkganmgcpbaaGreatDoor.zN l).getD j 0=((l.getD j 0:Nat):Int)from cT l j]
theorem SR.front {α:Type} {f:α->Value} {d:α} {w:World} {A:Option Addr} {n c k:Nat} {l:List α} (h:SR f d w A n c l) (i:k<=n):SR f d w A k c (l.take k):=by
 have hn:=h.hn;have m:=h.hc;refine⟨by rw[List.length_take];omega,by omega,h.hm,λa=>?_⟩;rw[List.length_take]at a;obtain⟨b,e,hl,hc⟩:=h.rd oO;refine⟨b,e,hl,λj g=>?_⟩;rw[List.length_take]at g;rw[hc j oO];simp[List.getD,List.getElem?_take,show j<k by omega]
theorem KD {v a:List Nat} {k z:Nat} (h:¬(aO (zN (v.take k)) z).2=0):nj v a k z=([],0,(aO (zN (v.take k)) z).2):=by
 unfold nj;rw[if_pos h]
theorem JN {v a:List Nat} {k z:Nat} (h:(aO (zN (v.take k)) z).2=0) (b:¬(dJ (aO (zN (v.take k)) z).1).2=0):nj v a k z=([],0,(dJ (aO (zN (v.take k)) z).1).2):=by
 unfold nj;rw[if_neg (by rw[h];decide),if_pos b]
theorem J9 {v a:List Nat} {k z:Nat} (h:(aO (zN (v.take k)) z).2=0) (b:(dJ (aO (zN (v.take k)) z).1).2=0):nj v a k z=((dJ (aO (zN (v.take k)) z).1).1,((dT a v).length:Int),0):=by
 unfold nj;rw[if_neg (by rw[h];decide),if_neg (by rw[b];decide)]
theorem Dj {a:Act} {d:Oper} {W:World} {x j:Operand} (f:d.op= .slice 64 x none (some j) none) {A:Option Addr} {n c:Nat} (g:a.eval x= .slice A n c) (k:Nat) (i:a.eval j= .int .i64 (k:Int)) (o:k<=c):
 (execOp a.eval d).run Tryz.prog W= .ok (.value (.slice A k c)) W:=by
 have b:=run_slice_h (P:=Tryz.prog) W 64 A n c Er .i64 (k:Int) oO oO
 have l:A.map (λe=>e.add 0)=A:=by cases A with
  |none=>rfl
  |some e=>simp only[Option.map_some,Addr.add_zero']
 rw[GO]at b;simp only[Result.andThen_ok,Int.toNat_natCast,sliced,Nat.zero_mul,Nat.sub_zero,l,ite_self]at b;have m:=run_sliceAt_slice (P:=Tryz.prog) W 64 (.slice A n c) none (some (.int .i64 (k:Int))) none Er;unfold execOp;simp only[f,g,i,Option.map_some,Option.map_none,Sem.run_bind,Sem.run_pure,Result.andThen_ok,m,b]
theorem DA (L:Nat) (c:Bool) (k n:Nat) (H:Int) (A:Option Addr) (N o:Nat) (d:List Bool) (w:World) (g:1<=L) (m:L<=32) (hc:c=true->L<=4) (hn:n=aj L c) (f1:1<=k) (fl:k<aD L c) (Y:N=n* n) (J:SR vB false w A N o d):
 Calls Tryz.prog 45 #[bD L c,fq n H A N o,.int .i64 k] w (gO w (kK n L c k d)):=by
 have ea:=tK (c:=c) g m hc;have f2:=eQ L;have bv:=j6 L c g m;have gg:=pc (c:=c) m;have ec:=oc L c;have ed:=nf L c;have ef:=room_le (c:=c) m;have bx:n<=161:=by rw[hn];exact bv.2
 have bz:N<=4194304:=by rw[Y];exact Nat.le_trans (Nat.mul_le_mul bx bx) oD
 have de:fI 2 (2^aq L) (jS (aq L)) (aD L c-k) 1:=FW (kS L) oO oO;have eh:Hid (∀W,Calls Tryz.prog 33 #[bD L c] W λe w'=>e= .returned (.int .i64 ((aq L:Nat):Int))/\Below W.heap.size W w'):=λW=>kR L c W m;have ei:Hid (∀W,Calls Tryz.prog 44 #[bD L c] W λe w'=>e= .returned (.int .i64 ((aD L c:Nat):Int))/\Below W.heap.size W w'):=λW=>nB L c W m;have ek:Hid (∀W,Calls Tryz.prog 46 #[bD L c] W λe w'=>∃v,e= .returned v/\Hid (SP w' v (aZ L c))/\Below W.heap.size W w'):=λW=>(we L c W m).mono λe w' ⟨v,g,i,K⟩=>⟨v,g,i.1,K⟩
 have b1:Hid (∀W v,af w W->SP W v (aZ L c)->Calls Tryz.prog 42 #[fq n H A N o,v] W λe w'=>∃db k,e= .returned (.slice (some ⟨db,0,none⟩) k k)/\k=(aZ L c).length/\Hid (SR vB false w' (some ⟨db,0,none⟩) k k (cA n d (aZ L c)))/\Below W.heap.size W w'):=λW v t r=>
  (rW n H A N o d _ v W oO bz (J.below t) r oO (λp dv=>by
   have:=fL m dv;rw[<-hn]at this
   exact⟨by omega,by omega,by rw[Y];exact iD this.1 this.2⟩)).mono λe w' ⟨db,k,g,i,K,dx⟩=>⟨db,k,g,i,K.sr (by rw[i];unfold cA;rw[List.length_map]) oM,dx⟩
 have b2:Hid (∀W A b f,SR vB false W A b f ((cA n d (aZ L c)).drop ((aZ L c).length-aD L c* aq L))->Calls Tryz.prog 60 #[.slice A b f,.int .i64 ((aq L:Nat):Int),.bool false] W (RT vN 0 W (lF n L c d,0))):=by
  show∀W A b f,_->_;intro W A b f hs;have Z:=hs.hn;have be:(cA n d (aZ L c)).length=(aZ L c).length:=by unfold cA;rw[List.length_map]
  rw[List.length_drop,be]at Z;exact qY A b f (aq L) (aD L c) _ W oO oO oO oO hs
 have b3:Hid (∀W,Calls Tryz.prog 61 #[.int .i64 ((aq L:Nat):Int),.int .i64 ((aD L c-k:Nat):Int)] W λe w'=>e= .returned (.tuple #[dw 2 (2^aq L) (jS (aq L)) (aD L c-k) 1,.int .i64 0])/\Below W.heap.size W w'):=λW=>Ct (aq L) (aD L c-k) W (kS L) oO oO;have b4:Hid (∀W A b f,SR vN 0 W A b f (lF n L c d)->RD W A (zl (lF n L c d))->Calls Tryz.prog 66 #[dw 2 (2^aq L) (jS (aq L)) (aD L c-k) 1,.slice A b f,.slice none 0 0] W (oP (2^aq L) (jS (aq L)) (aD L c-k) 1 (lF n L c d) W)):=by
  show∀W A b f,_->_->_;intro W A b f hs dy;have Z:=hs.hn;have be:(lF n L c d).length=aD L c:=cV _ _ _;exact uZ 2 _ _ _ 1 _ b A f W de Z (nH _ _ _) oO oO dy
 have el:Hid (∀W A b f v,SR vN 0 W A b f v->Calls Tryz.prog 90 #[.slice A b f,.int .i64 ((aq L:Nat):Int)] W (RT vB false W (aO (zN v) (aq L)))):=by
  show∀W A b f v,_->_;intro W A b f v hs;exact Dl A b f (aq L) (zN v) W hs.zN oO oO
 have ap:Hid (∀v,jT (2^aq L) (jS (aq L)) (aD L c-k) 1 (lF n L c d) (some v)->v.length=aD L c):=by
  show∀v,_->_;intro v r;rw[(r.2 v rfl).ln];exact cV _ _ _
 have X:Hid (∀v,jT (2^aq L) (jS (aq L)) (aD L c-k) 1 (lF n L c d) (some v)->kK n L c k d=nj v (lF n L c d) k (aq L)):=by
  show∀v,_->_;intro v r;unfold kK;rw[qN r]
 have b5:Hid (jT (2^aq L) (jS (aq L)) (aD L c-k) 1 (lF n L c d) none->kK n L c k d=([],0,17)):=by
  show _->_;intro r;unfold kK;rw[qN r]
 obtain⟨q,hq⟩:∃q,q=(aZ L c).length-aD L c* aq L:=⟨_,rfl⟩;obtain⟨u,b6⟩:∃u,u=aD L c* aq L:=⟨_,rfl⟩;obtain⟨x,b7⟩:∃x,x=(aZ L c).length:=⟨_,rfl⟩;obtain⟨par,dk⟩:∃par,par=aD L c-k:=⟨_,rfl⟩;have f3:q+u=x:=oO;have gp:par+k=aD L c:=oO;have gi:x<=20000:=oO;have f4:((aD L c:Nat):Int)* ((aq L:Nat):Int)=(u:Int):=by rw[b6];simp
 rw[<-hq]at b2;rw[<-dk]at b3 b4 ap X b5;rw[<-b7]at b1;clear hq b6 b7 dk ec ed ef de ea bv g m hc hn Y J bz;generalize kK n L c k d=ab at*;generalize lF n L c d=fn at*;generalize cA n d (aZ L c)=bf at*;generalize aZ L c=f5 at*;generalize em:2^aq L=S at*;generalize en:jS (aq L)=P at*;clear em en;generalize aq L=z at*;generalize aD L c=bi at*;have f6:(x:Int)-(u:Int)=(q:Int):=oO;have f7:(bi:Int)-(k:Int)=(par:Int):=oO;have f8:z<=12:=oO;have f9:k<=bi:=oO;have go:u<=20000:=oO;have b8:q<=x:=oO;obtain⟨y,av⟩:∃y,y=w.heap.size:=⟨_,rfl⟩;obtain⟨B,a0⟩:∃B,B=w.heap.size+1:=⟨_,rfl⟩;obtain⟨a,E⟩:∃a,a=(w.alloc (bC L c)).alloc (.cells (fk n H A N o) 28):=⟨_,rfl⟩;have j:Hid (Below w.heap.size w a):=by show Below _ _ _;rw[E];exact ah (ax _ _) _
 have eq:Hid (aa a y #[.int .i64 L,.bool c] 60):=by
  show aa _ _ _ _;rw[E];have g:aa (w.alloc (bC L c)) y #[.int .i64 L,.bool c] 60:=aa.new _ _ _ _ av;exact g.below (ax _ _)
 have er:Hid (aa a B (fk n H A N o) 28):=by show aa _ _ _ _;rw[E];exact aa.new _ _ _ _ (by simp[a0])
 have M:Hid (∀W,af a W->(W.cell? ⟨y,0,none⟩=some (.int .i64 (L:Int))/\W.cell? ⟨y,1,none⟩=some (.bool c))/\W.cell? ⟨B,0,none⟩=some (.int .i64 (n:Int))/\W.cell? ⟨B,1,none⟩=some (.int .i64 H)/\W.cell? ⟨B,2,none⟩=some (.slice A N o)):=by
  show∀W,_;intro W t;have g:=eq.out.below t;have i:=er.out.below t;exact⟨⟨g.cell 0 _ rfl,g.cell 1 _ rfl⟩,i.cell 0 _ rfl,i.cell 1 _ rfl,i.cell 2 _ rfl⟩
 go_enter Tryz.func45,Tryz.ntmps45;go_wp2;simp only[<-a0,<-E];simp only[<-av];clear E a0 av;have a1:Hid (af a a.drew):=ai (Below.refl _ _);refine yO (af a) [1,3,0,2,4,0,5,6] a1.out ?_
 repeat refine zO M.out ?_
 refine zZ ?_;refine(ei.out _).mono ?_;rintro e dz ⟨rfl,b9⟩;have a2:Hid (af a dz):=ae a1.out b9;clear b9;refine⟨_,rfl,a2.out,jO ?_⟩;refine zZ ?_;refine(eh.out _).mono ?_;rintro e bo ⟨rfl,ca⟩;have a3:Hid (af a bo):=ae a2.out ca;clear ca;refine⟨_,rfl,a3.out,jO ?_⟩
 repeat refine zO M.out ?_
 refine ag ?_;go_wp2;have a4:Hid (af a bo.drew):=ai a3.out;refine yO (af a) [1,2,0,3,4,0,5] a4.out ?_
 repeat refine zO M.out ?_
 refine zZ ?_;refine(ek.out _).mono ?_;rintro e dE ⟨fo,rfl,cb,ce⟩;have T:Hid (af a dE):=ae a4.out ce;clear ce;refine⟨_,rfl,T.out,jO ?_⟩;refine zZ ?_;refine(b1.out _ _ (j.out.trans (T.out.mono j.out.size)) cb.out).mono ?_;rintro e bq ⟨db,n4,rfl,es,ch,ci⟩;subst es;have ck:Hid (af a bq):=ae T.out ci;clear ci cb;refine⟨_,rfl,ck.out,jO ?_⟩
 repeat refine zO M.out ?_
 refine ag ?_;obtain⟨ac,a5⟩:∃ac,ac=if n4=q then some (⟨db,0,none⟩:Addr)else(some (⟨db,0,none⟩:Addr)).map (λd0=>d0.add q):=⟨_,rfl⟩
 obtain⟨O,a6⟩:∃O,O=n4-q:=⟨_,rfl⟩;have et:Hid (SR vB false bq ac O O (bf.drop q)):=by show SR _ _ _ _ _ _ _;rw[a5,a6];exact ch.out.from q b8
 clear ch a1 a2 a3 T a4
 go_wp2_with(first
  |((with_reducible show wpList _ _ _ (⟨some 34,Op.slice 26 _ _ _ _,_,_,_,_⟩::_) _ _);refine ku rfl (uJ (l:=bf) rfl rfl rfl q rfl b8) ?_;rw[<-a5,<-a6];clear a5 a6)
  |(go_at_call 60;refine(b2.out _ _ _ _ et.out).mono ?_;rintro e d1 ⟨fr,rfl,co,cp⟩;obtain⟨fv,fx,fz,rfl,-,cq,cs⟩:=co.rd;have ew:=Lib.hid cq;have ex:=Lib.hid cs;have ey:Hid (af a d1):=ae ck.out cp;clear co cp cs cq)
  |(go_at_call 61;refine(b3.out _).mono ?_;rintro e d2 ⟨rfl,U⟩;have ez:Hid (af a d2):=ae ey.out U;have eA:=Lib.hid (ew.out.below U);have e0:=Lib.hid (ex.out.below U);clear U)
  |(go_at_call 66;refine(b4.out _ _ _ _ (eA.out.below (ax _ _)) (e0.out.below (ax _ _))).mono ?_;rintro e C cv;obtain⟨cx,J⟩:=oP.nice cv;clear cv;have cN:Hid (af a C):=ae (ah ez.out _) cx;clear cx;rcases J with⟨v,ad,al,am,Q,D,cc,s,rfl,V,e9⟩|⟨s,rfl⟩)
  |((with_reducible show wpList _ _ _ (⟨some 65,Op.slice 64 _ _ _ _,_,_,_,_⟩::_) _ _);refine ku rfl (Dj rfl rfl k rfl (by have g:=ap.out v s.out;have i:=V.out.hn;have K:=V.out.hc;omega)) ?_)
  |(go_at_call 90;have fb:Hid (ak (C.alloc (.cells #[.slice ad al am,.slice Q D cc] 98)) C.heap.size [.slice ad al am,.slice Q D cc]):=ak.new C #[.slice ad al am,.slice Q D cc] 98 _ rfl;refine(el.out _ _ _ _ (v.take k) ((V.out.front (by have g:=ap.out v s.out;have i:=V.out.hn;omega)).below (ax _ _))).mono ?_;rintro e bs ⟨f0,rfl,c2,a7⟩;obtain⟨d3,d4,d5,rfl,c3⟩:=c2.parts;have c4:=Lib.hid c3;have c5:Hid (af a bs):=ae (ah cN.out _) a7;have fc:=Lib.hid (fb.out.below a7);clear c2 a7 c3;have c6:Hid (¬(aO (zN (v.take k)) z).2=0->ab=([],0,(aO (zN (v.take k)) z).2)):=λh=>(X.out v s.out).trans (KD h);have c7:Hid ((aO (zN (v.take k)) z).2=0->¬(dJ (aO (zN (v.take k)) z).1).2=0->ab=([],0,(dJ (aO (zN (v.take k)) z).1).2)):=λh i=>(X.out v s.out).trans (JN h i);have c8:Hid ((aO (zN (v.take k)) z).2=0->(dJ (aO (zN (v.take k)) z).1).2=0->ab=((dJ (aO (zN (v.take k)) z).1).1,(D:Int),0)):=(λh i=>by rw[e9.out];exact(X.out v s.out).trans (J9 h i));generalize aO (zN (v.take k)) z=d6 at*;obtain⟨bt,d7⟩:=d6;simp only at c6 c7 c8 c4⊢;by_cases F:d7=0)
  |(go_at_call 91;refine(Fq d3 d4 d5 bt bs c4.out).mono ?_;rintro e G ⟨v10,rfl,dn,a8⟩;obtain⟨gb,gc,ge,rfl,dp⟩:=dn.parts;have ds:=Lib.hid dp;have a9:Hid (af a G):=ae c5.out a8;have fe:=Lib.hid (fc.out.below a8);clear dn a8 dp;have c9:=Lib.hid (c7.out F);have da:=Lib.hid (c8.out F);generalize dJ bt=d8 at*;obtain⟨dl,d9⟩:=d8;simp only at c9 da ds⊢;by_cases dd:d9=0))
 ·subst F dd;have bb:=Lib.hid (da.out rfl);have fd:Hid (∀W,af G W->W.cell? ⟨C.heap.size,1,none⟩=some (.slice Q D cc)):=λW t=>(fe.out.below t).2 1 oS;have bd:Hid (af G G.drew):=ai (Below.refl _ _);refine yO (af G) [1,2,3,4,5,6,7] bd.out ?_
  repeat refine zO fd.out ?_
  refine ag ?_;go_wp2;go_ret3
  rw[bb.out];exact⟨_,_,_,rfl,ds.out.below bd.out,j.out.trans (((a9.out).trans (bd.out.mono a9.out.size)).mono j.out.size)⟩
 ·subst F;go_ret3
  exact gO.err (c9.out dd) (j.out.trans (a9.out.mono j.out.size))
 ·go_ret3
  exact gO.err (c6.out F) (j.out.trans (c5.out.mono j.out.size))
 ·have bb:=Lib.hid (b5.out s.out);go_ret3
  exact gO.err bb.out (j.out.trans ((ah cN.out _).mono j.out.size))
abbrev ym (W H:Int) (A:Option Addr) (N a:Nat):Obj:= .cells (fk W H A N a) 28
theorem nY (w:World) (W H:Int) (A:Option Addr) (N a:Nat):Hid (∀V,af (w.alloc (ym W H A N a)) V->V.cell? ⟨w.heap.size,0,none⟩=some (.int .i64 W)/\V.cell? ⟨w.heap.size,1,none⟩=some (.int .i64 H)/\V.cell? ⟨w.heap.size,2,none⟩=some (.slice A N a)):=by
 show∀V,_;intro V c;have h:aa (w.alloc (ym W H A N a)) w.heap.size (fk W H A N a) 28:=aa.new _ _ _ _ rfl;have b:=h.below c;exact⟨b.cell 0 _ rfl,b.cell 1 _ rfl,b.cell 2 _ rfl⟩
theorem DF {W H:Int} {N:Nat} (h:eD W H N=true):∃n m:Nat,W=n/\H=m/\1<=n/\n<=4096/\1<=m/\m<=4096/\N=n* m/\N<=4194304:=by
 unfold eD at h;simp only[Bool.and_eq_true,decide_eq_true_eq]at h;obtain⟨⟨⟨⟨⟨b,c⟩,d⟩,e⟩,f⟩,a⟩:=h;refine⟨W.toNat,H.toNat,by omega,by omega,by omega,by omega,by omega,by omega,?_,by omega⟩;have e1:W=(W.toNat:Int):=oO;have e2:H=(H.toNat:Int):=oO;rw[e1,e2,<-Int.natCast_mul]at a
 exact_mod_cast a
theorem Je {n:Nat} {c:Bool} (h:dL n c=true):∃L,1<=L/\L<=32/\(c=true->L<=4)/\n=aj L c:=by
 unfold dL at h;rw[List.any_eq_true]at h;obtain⟨i,b,a⟩:=h;rw[Bool.and_eq_true,beq_iff_eq]at a;obtain⟨k,d,e,f,k3⟩:=kg a.1;have:k=i+1:=oO;exact⟨i+1,by omega,by omega,λhc=>by have:=k3 hc;omega,a.2.symm⟩
theorem vJ {n:Nat} {c:Bool} (h:dL n c=true):aN c+2<=(n-1)/2/\(n-1)/2+aN c+2<n/\n=2* ((n-1)/2)+1/\n<=161/\15<=n:=by
 obtain⟨L,a,b,e,rfl⟩:=Je h;have d:=jg (c:=c) a b;have f:=j6 L c a b;unfold aQ at d;omega
theorem Gc (W H:Int) (A:Option Addr) (N a:Nat) (d:List Bool) (w:World) (g:N<=9223372036854775807) (b:eD W H N=false) (c:d.length=N):Calls Tryz.prog 14 #[fq W H A N a] w (gO w (fM W H d)):=by
 have i:Hid (fM W H d=([],0,1)):=by show _=_;unfold fM;rw[c,if_pos b]
 have k:Hid (∀V,Calls Tryz.prog 37 #[fq W H A N a] V λe w'=>e= .returned (.bool false)/\Below V.heap.size V w'):=λV=>by rw[<-b];exact l9 W H A N a V g
 clear b c;go_enter Tryz.func14,Tryz.ntmps14;go_wp2_with(go_at_call 37;refine(k.out _).mono ?_;rintro e j ⟨rfl,f⟩;have l:Hid (Below w.heap.size w j):=cH f;clear f)
 go_ret3
 exact gO.err i.out l.out
theorem Ds (n m:Nat) (A:Option Addr) (N a:Nat) (d:List Bool) (w:World) (hn:n<=4096) (H:N<=4194304) (f:eD n m N=true) (l:d.length=N) (M:n≠m) (o p:Bool) (q:dL n true=o) (r:dL n false=p):Calls Tryz.prog 14 #[fq n m A N a] w (gO w (fM n m d)):=by
 have C:Hid (fM n m d=([],0,23)):=by
  show _=_;unfold fM;rw[l,f,if_neg oD,if_pos (.inl oO)]
 have E:Hid (∀V,Calls Tryz.prog 37 #[fq n m A N a] V λe w'=>e= .returned (.bool true)/\Below V.heap.size V w'):=λV=>by rw[<-f];exact l9 _ _ A N a V oO
 have F:Hid (∀V,Calls Tryz.prog 38 #[.int .i64 n,.bool true] V λe w'=>e= .returned (.bool o)/\Below V.heap.size V w'):=λV=>by have h:=fS n true V oO;rw[q]at h;exact h
 have G:Hid (∀V,Calls Tryz.prog 38 #[.int .i64 n,.bool false] V λe w'=>e= .returned (.bool p)/\Below V.heap.size V w'):=λV=>by have h:=fS n false V oO;rw[r]at h;exact h
 have O:¬(n:Int)=(m:Int):=oO;clear f l q r;have b:=nY w n m A N a;obtain⟨w0,c⟩:∃w0,w0=w.alloc (ym n m A N a):=⟨_,rfl⟩;have v:Hid (Below w.heap.size w w0):=by show Below _ _ _;rw[c];exact ax _ _
 obtain⟨s,g⟩:∃s,s=w.heap.size:=⟨_,rfl⟩;rw[<-c,<-g]at b;go_enter Tryz.func14,Tryz.ntmps14;go_wp2_with(go_at_call 37;(rw[<-c]);refine(E.out _).mono ?_;rintro e t ⟨rfl,x⟩;have y:Hid (af w0 t):=x;clear x)
 simp only[<-g];clear c g;have i:Hid (af w0 t.drew):=ai y.out;refine yO (af w0) [1,2,4,5,0,3,6,0,7,8] i.out ?_
 repeat refine zO b.out ?_
 refine zZ ?_;refine(F.out _).mono ?_;rintro e D ⟨rfl,z⟩;have j:Hid (af w0 D):=ae i.out z;clear z;refine⟨_,rfl,j.out,jO ?_⟩;refine zZ ?_;refine(G.out _).mono ?_;rintro e u ⟨rfl,B⟩;have k:Hid (af w0 u):=ae j.out B;clear B;refine⟨_,rfl,k.out,jO ?_⟩
 repeat refine zO b.out ?_
 refine ag ?_;obtain⟨J,K,L⟩:=b.out u k.out;clear y j i;go_wp2;go_ret3
 exact gO.err C.out (v.out.trans (k.out.mono v.out.size))
theorem Dy (n m:Nat) (A:Option Addr) (N a:Nat) (d:List Bool) (w:World) (hn:n<=4096) (G:N<=4194304) (f:eD n m N=true) (p:d.length=N) (z:n=m) (g:dL n true=false) (i:dL n false=false):Calls Tryz.prog 14 #[fq n m A N a] w (gO w (fM n m d)):=by
 have B:Hid (fM n m d=([],0,23)):=by
  show _=_;unfold fM;rw[p,f,if_neg oD,if_pos (.inr (by rw[Int.toNat_natCast];exact⟨g,i⟩))]
 have D:Hid (∀V,Calls Tryz.prog 37 #[fq n m A N a] V λe w'=>e= .returned (.bool true)/\Below V.heap.size V w'):=λV=>by rw[<-f];exact l9 _ _ A N a V oO
 have E:Hid (∀V,Calls Tryz.prog 38 #[.int .i64 n,.bool true] V λe w'=>e= .returned (.bool false)/\Below V.heap.size V w'):=λV=>by have h:=fS n true V oO;rw[g]at h;exact h
 have F:Hid (∀V,Calls Tryz.prog 38 #[.int .i64 n,.bool false] V λe w'=>e= .returned (.bool false)/\Below V.heap.size V w'):=λV=>by have h:=fS n false V oO;rw[i]at h;exact h
 subst z;clear f p g i;have b:=nY w n n A N a;obtain⟨w0,c⟩:∃w0,w0=w.alloc (ym n n A N a):=⟨_,rfl⟩;have t:Hid (Below w.heap.size w w0):=by show Below _ _ _;rw[c];exact ax _ _
 obtain⟨q,j⟩:∃q,q=w.heap.size:=⟨_,rfl⟩;rw[<-c,<-j]at b;go_enter Tryz.func14,Tryz.ntmps14;go_wp2_with(go_at_call 37;(rw[<-c]);refine(D.out _).mono ?_;rintro e r ⟨rfl,u⟩;have v:Hid (af w0 r):=u;clear u)
 simp only[<-j];clear c j;have k:Hid (af w0 r.drew):=ai v.out;refine yO (af w0) [1,2,4,5,0,3,6,0,7,8] k.out ?_
 repeat refine zO b.out ?_
 refine zZ ?_;refine(E.out _).mono ?_;rintro e C ⟨rfl,x⟩;have l:Hid (af w0 C):=ae k.out x;clear x;refine⟨_,rfl,l.out,jO ?_⟩;refine zZ ?_;refine(F.out _).mono ?_;rintro e s ⟨rfl,y⟩;have o:Hid (af w0 s):=ae l.out y;clear y;refine⟨_,rfl,o.out,jO ?_⟩
 repeat refine zO b.out ?_
 refine ag ?_;obtain⟨H,J,K⟩:=b.out s o.out;clear v l k;go_wp2;go_ret3
 exact gO.err B.out (t.out.trans (o.out.mono t.out.size))
theorem vh (n C m a C' b:Nat) (c d:Bool):(splice (bZ n c C m).toList 0 (bZ a d C' b).toList).toArray=bZ a d C' b:=rfl
theorem k8 {W:World} {b n C m:Nat} {c:Bool} (h:aa W b (bZ n c C m) 71):W.cell? ⟨b,0,none⟩=some (.int .i64 (n:Int))/\W.cell? ⟨b,1,none⟩=some (.bool c)/\W.cell? ⟨b,2,none⟩=some (.int .i64 (C:Int))/\W.cell? ⟨b,3,none⟩=some (.int .i64 (m:Int)):=⟨h.cell 0 _ rfl,h.cell 1 _ rfl,h.cell 2 _ rfl,h.cell 3 _ rfl⟩
theorem jY {n:Nat} {d:List Bool} (b:eD n n d.length=true) (h:dL n true=true\/dL n false=true) {k:Option Bool} (e:kN n d=k):fM n n d=k.elim ([],0,18) (λc=>py n d c):=by
 subst e;unfold fM;rw[b,if_neg oD,if_neg,Int.toNat_natCast]
 ·cases kN n d<;>rfl
 ·rw[Int.toNat_natCast];rintro(a|a)
  ·exact a rfl
  ·rcases h with h|h
   ·rw[h]at a;exact absurd a.1 oD
   ·rw[h]at a;exact absurd a.2 oD
theorem sQ (n:Nat) (A:Option Addr) (N f:Nat) (d:List Bool) (w:World) (z:N=n* n) (bq:N<=4194304) (o:eD n n N=true) (B:SR vB false w A N f d) (p q e6 e4 c:Bool) (P:dL n true=p) (Q:dL n false=q) (S:jf n ((n-1)/2) false d=e6) (T:jf n ((n-1)/2) true d=e4) (am:dL n c=true) (U:fM n n d=([],0,18)) (hc:(p=false/\q=true/\e6=false)\/(p=true/\q=true/\e6=false/\e4=false)\/(p=true/\q=false/\e4=false)):Calls Tryz.prog 14 #[fq n n A N f] w (gO w (fM n n d)):=by
 have hg:15<=n/\n<=161:=by have h:=vJ am;omega
 have a4:Hid (∀V,Calls Tryz.prog 37 #[fq n n A N f] V λe w'=>e= .returned (.bool true)/\Below V.heap.size V w'):=λV=>by rw[<-o];exact l9 _ _ A N f V oO
 have a5:Hid (∀V,Calls Tryz.prog 38 #[.int .i64 n,.bool true] V λe w'=>e= .returned (.bool p)/\Below V.heap.size V w'):=λV=>by have h:=fS n true V oO;rw[P]at h;exact h
 have a6:Hid (∀V,Calls Tryz.prog 38 #[.int .i64 n,.bool false] V λe w'=>e= .returned (.bool q)/\Below V.heap.size V w'):=λV=>by have h:=fS n false V oO;rw[Q]at h;exact h
 obtain⟨C,j⟩:∃C,C=(n-1)/2:=⟨_,rfl⟩;obtain⟨k,E⟩:∃x,x=aN false:=⟨_,rfl⟩;obtain⟨l,F⟩:∃x,x=aN true:=⟨_,rfl⟩;have be:Hid (∀V,Calls Tryz.prog 39 #[.int .i64 n,.bool false] V λe w'=>e= .returned (cY n false C k)/\Below V.heap.size V w'):=λV=>by rw[j,E];exact jN n false V oO oO
 have bf:Hid (∀V,Calls Tryz.prog 39 #[.int .i64 n,.bool true] V λe w'=>e= .returned (cY n true C l)/\Below V.heap.size V w'):=λV=>by rw[j,F];exact jN n true V oO oO
 have a7:Hid (∀V,af w V->Calls Tryz.prog 40 #[cY n false C k,fq n n A N f] V λe w'=>e= .returned (.bool e6)/\Below V.heap.size V w'):=λV D=>by have h:=uA n C k false n A N f d V E oO oO oO z (B.below D);rw[j,S,<-j]at h;exact h
 have a8:Hid (∀V,af w V->Calls Tryz.prog 40 #[cY n true C l,fq n n A N f] V λe w'=>e= .returned (.bool e4)/\Below V.heap.size V w'):=λV D=>by have h:=uA n C l true n A N f d V F oO oO oO z (B.below D);rw[j,T,<-j]at h;exact h
 have a2:=Lib.hid U;clear U o B P Q S T z j E F am;have g:=nY w n n A N f;obtain⟨w0,u⟩:∃w0,w0=w.alloc (ym n n A N f):=⟨_,rfl⟩;have m:Hid (Below w.heap.size w w0):=by show Below _ _ _;rw[u];exact ax _ _
 obtain⟨W,G⟩:∃W,W=w.heap.size:=⟨_,rfl⟩;rw[<-u,<-G]at g;go_enter Tryz.func14,Tryz.ntmps14;go_wp2_with(go_at_call 37;(rw[<-u]);refine(a4.out _).mono ?_;rintro e X ⟨rfl,ap⟩;have av:Hid (af w0 X):=ap;clear ap)
 simp only[<-G];clear u G;have H:Hid (af w0 X.drew):=ai av.out;refine yO (af w0) [1,2,4,5,0,3,6,0,7,8] H.out ?_
 repeat refine zO g.out ?_
 refine zZ ?_;refine(a5.out _).mono ?_;rintro e a3 ⟨rfl,a0⟩;have J:Hid (af w0 a3):=ae H.out a0;clear a0;refine⟨_,rfl,J.out,jO ?_⟩;refine zZ ?_;refine(a6.out _).mono ?_;rintro e Y ⟨rfl,a1⟩;have y:Hid (af w0 Y):=ae J.out a1;clear a1;refine⟨_,rfl,y.out,jO ?_⟩
 repeat refine zO g.out ?_
 refine ag ?_;obtain⟨r,s,t⟩:=g.out Y y.out;clear av J H;rcases hc with⟨rfl,rfl,rfl⟩|⟨rfl,rfl,rfl,rfl⟩|⟨rfl,rfl,rfl⟩
 all_goals
  go_wp2_with(first
   |(go_at_call 39;(with_reducible show Calls _ _ #[_,.bool false] _ _);refine(be.out _).mono ?_;rintro e i ⟨rfl,K⟩;have a:Hid (af w0 (i.alloc (.cells (bZ n false C k) 71))):=ah (ae y.out K) _;have b:Hid (aa (i.alloc (.cells (bZ n false C k) 71)) i.heap.size (bZ n false C k) 71):=aa.new _ _ _ _ rfl;have a9:Hid (w0.heap.size<=i.heap.size):=Nat.le_trans y.out.size K.size;obtain⟨r,s,t⟩:=g.out _ a.out;clear K)
   |(go_at_call 40;(with_reducible show Calls _ _ #[.agg #[_,.bool false,_,_],_] _ _);refine(a7.out _ (m.out.trans (a.out.mono m.out.size))).mono ?_;rintro e bi ⟨rfl,L⟩;have a:=Lib.hid (ae a.out L);have b:=Lib.hid (b.out.below L);obtain⟨r,s,t⟩:=g.out _ a.out;obtain⟨Z,ab,ac,ad⟩:=k8 b.out;clear L)
   |(go_at_call 39;refine(bf.out _).mono ?_;rintro e al ⟨rfl,M⟩;have a:=Lib.hid (ae a.out M);have b:=Lib.hid (b.out.below M);clear M)
   |((with_reducible show wpList _ _ _ (⟨none,Op.store 71 _ (.tmp 47),_,_,_,_⟩::_) _ _);refine bT rfl 71 _ _ rfl 71 i.heap.size 0 (bZ n false C k) (bZ n true C l).toList rfl rfl b.out wK (by show 4<=4;omega) (by intro v o;simp only[List.mem_cons,List.not_mem_nil,or_false]at o;rcases o with rfl|rfl|rfl|rfl<;>rfl) ?_;rw[vh];have bb:Hid (af w0 (al.setRow i.heap.size (bZ n true C l))):=below_setRow a.out a9.out _;have a:=bb;have bd:Hid (aa (al.setRow i.heap.size (bZ n true C l)) i.heap.size (bZ n true C l) 71):=b.out.set _;have b:=bd;obtain⟨r,s,t⟩:=g.out _ a.out;obtain⟨Z,ab,ac,ad⟩:=k8 b.out)
   |(go_at_call 40;refine(a8.out _ (m.out.trans (a.out.mono m.out.size))).mono ?_;rintro e bo ⟨rfl,O⟩;have a:=Lib.hid (ae a.out O);have b:=Lib.hid (b.out.below O);obtain⟨r,s,t⟩:=g.out _ a.out;obtain⟨Z,ab,ac,ad⟩:=k8 b.out;clear O))
  go_ret3
  exact gO.err a2.out (m.out.trans (a.out.mono m.out.size))
def pmF:Option (Nat×Nat)->Int×Int×Int
 |none=>(0,0,17)
 |some q=>((q.1:Int),(q.2:Int),0)
theorem Io {c:Bool} {a:List Bool} (h:a.length=eV c+gG c+eu c* 4):iJ c a=pmF (l7 c a):=by
 unfold iJ;rw[if_neg (λb=>b h)];cases l7 c a<;>rfl
theorem EX {c:Bool} {b:List Bool} {q:Nat×Nat} (h:l7 c b=some q):1<=q.1/\q.1<=4096/\1<=q.2/\q.2<=4096:=by
 unfold l7 at h;rw[Option.map_eq_some_iff]at h;obtain⟨v,-,rfl⟩:=h;have a:=ji (bF v 4) 0 (eV c);have d:=ji (bF v 4) (eV c) (gG c);have e:2^eV c<=2048/\2^gG c<=2048:=by cases c<;>decide
 simp only;omega
theorem ns (n:Nat) (A:Option Addr) (N j:Nat) (d:List Bool) (w:World) (a0:N=n* n) (dn:N<=4194304) (Z:eD n n N=true) (a1:SR vB false w A N j d) (a2 K e6 e4 c:Bool) (c7:dL n true=a2) (c8:dL n false=K) (c9:jf n ((n-1)/2) false d=e6) (da:jf n ((n-1)/2) true d=e4) (ci:dL n c=true) (b3:fM n n d=py n d c) (hc:(c=false/\K=true/\e6=true)\/(c=true/\a2=true/\K=true/\e6=false/\e4=true)\/(c=true/\a2=true/\K=false/\e4=true)):Calls Tryz.prog 14 #[fq n n A N j] w (gO w (fM n n d)):=by
 have hg:15<=n/\n<=161:=by have h:=vJ ci;omega
 have eq:Hid (∀V,Calls Tryz.prog 37 #[fq n n A N j] V λe w'=>e= .returned (.bool true)/\Below V.heap.size V w'):=λV=>by rw[<-Z];exact l9 _ _ A N j V oO
 have er:Hid (∀V,Calls Tryz.prog 38 #[.int .i64 n,.bool true] V λe w'=>e= .returned (.bool a2)/\Below V.heap.size V w'):=λV=>by have h:=fS n true V oO;rw[c7]at h;exact h
 have es:Hid (∀V,Calls Tryz.prog 38 #[.int .i64 n,.bool false] V λe w'=>e= .returned (.bool K)/\Below V.heap.size V w'):=λV=>by have h:=fS n false V oO;rw[c8]at h;exact h
 obtain⟨C,t⟩:∃C,C=(n-1)/2:=⟨_,rfl⟩;obtain⟨M,b4⟩:∃x,x=aN false:=⟨_,rfl⟩;obtain⟨F,bi⟩:∃x,x=aN true:=⟨_,rfl⟩;have gb:Hid (∀V,Calls Tryz.prog 39 #[.int .i64 n,.bool false] V λe w'=>e= .returned (cY n false C M)/\Below V.heap.size V w'):=λV=>by rw[t,b4];exact jN n false V oO oO
 have gc:Hid (∀V,Calls Tryz.prog 39 #[.int .i64 n,.bool true] V λe w'=>e= .returned (cY n true C F)/\Below V.heap.size V w'):=λV=>by rw[t,bi];exact jN n true V oO oO
 have et:Hid (∀V,af w V->Calls Tryz.prog 40 #[cY n false C M,fq n n A N j] V λe w'=>e= .returned (.bool e6)/\Below V.heap.size V w'):=λV u=>by have h:=uA n C M false n A N j d V b4 oO oO oO a0 (a1.below u);rw[t,c9,<-t]at h;exact h
 have ew:Hid (∀V,af w V->Calls Tryz.prog 40 #[cY n true C F,fq n n A N j] V λe w'=>e= .returned (.bool e4)/\Below V.heap.size V w'):=λV u=>by have h:=uA n C F true n A N j d V bi oO oO oO a0 (a1.below u);rw[t,da,<-t]at h;exact h
 obtain⟨a3,U⟩:∃x,x=aN c:=⟨_,rfl⟩;obtain⟨dp,ds,dv,gs,gt⟩:=vJ ci;rw[<-t]at dp ds dv;have gx:aN c<=7:=by cases c<;>decide
 obtain⟨O,bo⟩:∃O,O=qa n C c d:=⟨_,rfl⟩;obtain⟨ab,bq⟩:∃ab,ab=cA n d (cC C c):=⟨_,rfl⟩;obtain⟨y,bs⟩:∃y,y=l7 c ab:=⟨_,rfl⟩;have ex:Hid (O=false->fM n n d=([],0,18)):=by
  show _->_;intro h;rw[b3];unfold py;rw[<-t,<-bo,h,if_pos rfl]
 have ey:Hid (O=true->y=none->fM n n d=([],0,21)):=by
  show _->_->_;intro h m;rw[b3];unfold py;rw[<-t,<-bo,h,if_neg oD,<-bq,<-bs,m]
 have dx:Hid (O=true->∀q,y=some q->fM n n d=if(fH (q.1:Int) c&&(aj q.1 c==n)&&decide (q.2<aD q.1 c))=true then kK n q.1 c q.2 d else([],0,21)):=by
  show _->∀q,_->_;intro h q m;rw[b3];unfold py;rw[<-t,<-bo,h,if_neg oD,<-bq,<-bs,m]
 have ez:Hid (iJ c ab=pmF y):=by
  show _=_;rw[bs];exact Io (by rw[bq];unfold cA;rw[List.length_map,ky];cases c<;>rfl)
 have eA:Hid (∀q,y=some q->1<=q.1/\q.1<=4096/\1<=q.2/\q.2<=4096):=by
  show∀q,_->_;intro q h;rw[bs]at h;exact EX h
 have e0:Hid (∀V,af w V->Calls Tryz.prog 41 #[cY n c C a3,fq n n A N j] V λe w'=>e= .returned (.bool O)/\Below V.heap.size V w'):=λV u=>by rw[bo];exact BY n C a3 c n A N j d V U (by rw[U];omega) (by rw[U];omega) oO a0 dn (a1.below u)
 have e9:Hid (∀V,Calls Tryz.prog 43 #[cY n c C a3] V λe w'=>∃v,e= .returned v/\Hid (SP w' v (cC C c))/\Below V.heap.size V w'):=λV=>by
  rw[U];exact(oR n C c V oO oO).mono λe w' ⟨v,a9,m,ce⟩=>⟨v,a9,m.1,ce⟩
 have fb:Hid (∀V v,af w V->SP V v (cC C c)->Calls Tryz.prog 42 #[fq n n A N j,v] V λe w'=>∃db k,e= .returned (.slice (some ⟨db,0,none⟩) k k)/\Hid (SR vB false w' (some ⟨db,0,none⟩) k k ab)/\Below V.heap.size V w'):=λV v u Z=>
  (rW n n A N j d _ v V oO dn (a1.below u) Z (by rw[ky];cases c<;>decide) (λp ei=>by
   have:=mI oO ei
   exact⟨by omega,by omega,by rw[a0];exact iD oO oO⟩)).mono λe w' ⟨db,k,a9,m,ce,ek⟩=>⟨db,k,a9,by rw[bq];exact ce.sr (by rw[m];unfold cA;rw[List.length_map]) (by rw[m,ky];cases c<;>decide),ek⟩
 have fc:Hid (∀V B k bb,SR vB false V B k bb ab->Calls Tryz.prog 25 #[.slice B k bb,.bool c] V (M5 V (pmF y).1 (pmF y).2.1 (pmF y).2.2)):=λV B k bb h=>by rw[<-ez.out];exact Ai c ab B k bb V h
 obtain⟨a4,a6⟩:∃f:Nat->Bool,∀q,f q=fH (q:Int) c:=⟨_,λ_=>rfl⟩;obtain⟨P,b5⟩:∃f:Nat->Nat,∀q,f q=aj q c:=⟨_,λ_=>rfl⟩;obtain⟨wf,b6⟩:∃f:Nat->Nat,∀q,f q=aD q c:=⟨_,λ_=>rfl⟩;obtain⟨ch,ck⟩:∃f:Nat->Nat->List UInt8×Int×Int,∀q k,f q k=kK n q c k d:=⟨_,λ_ _=>rfl⟩;have fd:Hid (O=true->∀q,y=some q->fM n n d=if(a4 q.1&&(P q.1==n)&&decide (q.2<wf q.1))=true then ch q.1 q.2 else([],0,21)):=by
  show _->∀q,_->_;intro h q m;rw[a6,b5,b6,ck];exact dx.out h q m
 have b7:Hid (∀V (L:Nat),Calls Tryz.prog 29 #[bD (L:Int) c] V λe w'=>e= .returned (.bool (a4 L))/\Below V.heap.size V w'):=λV L=>by rw[a6];exact fQ (L:Int) c V
 have co:Hid (∀V (L:Nat),a4 L=true->Calls Tryz.prog 36 #[bD L c] V λe w'=>e= .returned (.int .i64 ((P L:Nat):Int))/\Below V.heap.size V w'):=λV L h=>by rw[a6]at h;rw[b5];exact mJ L c V (by obtain⟨k,e,_,m,_⟩:=kg h;omega)
 have dy:Hid (∀V (L:Nat),a4 L=true->Calls Tryz.prog 44 #[bD L c] V λe w'=>e= .returned (.int .i64 ((wf L:Nat):Int))/\Below V.heap.size V w'):=λV L h=>by rw[a6]at h;rw[b6];exact nB L c V (by obtain⟨k,e,_,m,_⟩:=kg h;omega)
 have fe:Hid (∀V (L k:Nat),af w V->a4 L=true->P L=n->1<=k->k<wf L->Calls Tryz.prog 45 #[bD L c,fq n n A N j,.int .i64 k] V (gO V (ch L k))):=λV L k u l hs a9 m=>by
  rw[a6]at l;rw[b5]at hs;rw[b6]at m;rw[ck];obtain⟨bb,e,gi,go,el⟩:=kg l;exact DA L c k n n A N j d V oO oO (λh=>by have:=el h;omega) hs.symm a9 m a0 (a1.below u)
 obtain⟨em,fl⟩:∃f:Nat->Obj,∀q:Nat,f q=bC (q:Int) c:=⟨_,λ_=>rfl⟩;obtain⟨dd,dz⟩:∃v:Value,v= .bool c:=⟨_,rfl⟩;have fn:(c=false/\M=a3/\K=true/\e6=true)\/(c=true/\F=a3/\a2=true/\K=true/\e6=false/\e4=true)\/(c=true/\F=a3/\a2=true/\K=false/\e4=true):=by
  rcases hc with⟨rfl,h⟩|⟨rfl,h⟩|⟨rfl,h⟩
  ·exact .inl ⟨rfl,b4.trans U.symm,h⟩
  ·exact .inr (.inl ⟨rfl,bi.trans U.symm,h⟩)
  ·exact .inr (.inr ⟨rfl,bi.trans U.symm,h⟩)
 clear b3 Z a1 c7 c8 c9 da a0 t ci bo bq bs dp ds dv a6 b5 b6 ck dx hc b4 bi U;have D:=nY w n n A N j;obtain⟨w0,b8⟩:∃w0,w0=w.alloc (ym n n A N j):=⟨_,rfl⟩;have s:Hid (Below w.heap.size w w0):=by show Below _ _ _;rw[b8];exact ax _ _
 obtain⟨Q,cp⟩:∃Q,Q=w.heap.size:=⟨_,rfl⟩;rw[<-b8,<-cp]at D;go_enter Tryz.func14,Tryz.ntmps14;go_wp2_with(go_at_call 37;(rw[<-b8]);refine(eq.out _).mono ?_;rintro e de ⟨rfl,dE⟩;have d0:Hid (af w0 de):=dE;clear dE)
 simp only[<-cp];clear b8 cp;have cq:Hid (af w0 de.drew):=ai d0.out;refine yO (af w0) [1,2,4,5,0,3,6,0,7,8] cq.out ?_
 repeat refine zO D.out ?_
 refine zZ ?_;refine(er.out _).mono ?_;rintro e en ⟨rfl,d1⟩;have cs:Hid (af w0 en):=ae cq.out d1;clear d1;refine⟨_,rfl,cs.out,jO ?_⟩;refine zZ ?_;refine(es.out _).mono ?_;rintro e dk ⟨rfl,d2⟩;have b9:Hid (af w0 dk):=ae cs.out d2;clear d2;refine⟨_,rfl,b9.out,jO ?_⟩
 repeat refine zO D.out ?_
 refine ag ?_;obtain⟨ac,ad,al⟩:=D.out dk b9.out;clear d0 cs cq;rcases fn with⟨rfl,rfl,rfl,rfl⟩|⟨rfl,rfl,rfl,rfl,rfl,rfl⟩|⟨rfl,rfl,rfl,rfl,rfl⟩
 all_goals
  go_wp2_with(first
   |(go_at_call 39;(with_reducible show Calls _ _ #[_,.bool false] _ _);refine(gb.out _).mono ?_;rintro e S ⟨rfl,cv⟩;have g:Hid (af w0 (S.alloc (.cells (bZ n false C M) 71))):=ah (ae b9.out cv) _;have o:Hid (aa (S.alloc (.cells (bZ n false C M) 71)) S.heap.size (bZ n false C M) 71):=aa.new _ _ _ _ rfl;have fo:Hid (w0.heap.size<=S.heap.size):=Nat.le_trans b9.out.size cv.size;obtain⟨ac,ad,al⟩:=D.out _ g.out;clear cv)
   |(go_at_call 40;(with_reducible show Calls _ _ #[.agg #[_,.bool false,_,_],_] _ _);refine(et.out _ (s.out.trans (g.out.mono s.out.size))).mono ?_;rintro e gp ⟨rfl,cx⟩;have g:=Lib.hid (ae g.out cx);have o:=Lib.hid (o.out.below cx);obtain⟨ac,ad,al⟩:=D.out _ g.out;obtain⟨bd,be,b1,b2⟩:=k8 o.out;clear cx)
   |(go_at_call 39;refine(gc.out _).mono ?_;rintro e dl ⟨rfl,cN⟩;have g:=Lib.hid (ae g.out cN);have o:=Lib.hid (o.out.below cN);clear cN)
   |((with_reducible show wpList _ _ _ (⟨none,Op.store 71 _ (.tmp 47),_,_,_,_⟩::_) _ _);refine bT rfl 71 _ _ rfl 71 S.heap.size 0 (bZ n false C M) (bZ n true C F).toList rfl rfl o.out wK (by show 4<=4;omega) (by intro v Z;simp only[List.mem_cons,List.not_mem_nil,or_false]at Z;rcases Z with rfl|rfl|rfl|rfl<;>rfl) ?_;rw[vh];have fr:Hid (af w0 (dl.setRow S.heap.size (bZ n true C F))):=below_setRow g.out fo.out _;have g:=fr;have fv:Hid (aa (dl.setRow S.heap.size (bZ n true C F)) S.heap.size (bZ n true C F) 71):=o.out.set _;have o:=fv;obtain⟨ac,ad,al⟩:=D.out _ g.out;obtain⟨bd,be,b1,b2⟩:=k8 o.out)
   |(go_at_call 40;refine(ew.out _ (s.out.trans (g.out.mono s.out.size))).mono ?_;rintro e gq ⟨rfl,c2⟩;have g:=Lib.hid (ae g.out c2);have o:=Lib.hid (o.out.below c2);obtain⟨ac,ad,al⟩:=D.out _ g.out;obtain⟨bd,be,b1,b2⟩:=k8 o.out;clear c2)
   |(go_at_call 41;refine(e0.out _ (s.out.trans (g.out.mono s.out.size))).mono ?_;rintro e T ⟨rfl,c3⟩;have g:=Lib.hid (ae g.out c3);have o:=Lib.hid (o.out.below c3);obtain⟨ac,ad,al⟩:=D.out _ g.out;clear c3;rcases O with _|_))
 all_goals(try(go_ret3;exact gO.err (ex.out oS) (s.out.trans (g.out.mono s.out.size))))
 all_goals
  clear ac ad al;have d3:Hid (af T T.drew):=ai (Below.refl _ _);have ca:Hid (∀W,af T W->(W.cell? ⟨Q,0,none⟩=some (.int .i64 (n:Int))/\W.cell? ⟨Q,1,none⟩=some (.int .i64 (n:Int))/\W.cell? ⟨Q,2,none⟩=some (.slice A N j))/\_):=λW a5=>⟨D.out W (g.out.trans (a5.mono g.out.size)),k8 (o.out.below a5)⟩;refine yO (af T) [1,2,5,6,0,3,4,7,0,8,9,10,11,12,13,14] d3.out ?_
  repeat refine zO ca.out ?_
  refine zZ ?_;refine(e9.out _).mono ?_;rintro e fx ⟨v10,rfl,d7,d8⟩;have c5:Hid (af T fx):=ae d3.out d8;clear d8;refine⟨_,rfl,c5.out,jO ?_⟩;refine zZ ?_;refine(fb.out _ _ (s.out.trans ((g.out.trans (c5.out.mono g.out.size)).mono s.out.size)) d7.out).mono ?_;rintro e fz ⟨db,NF,rfl,d9,ea⟩;have ec:Hid (af T fz):=ae c5.out ea;clear ea;refine⟨_,rfl,ec.out,jO ?_⟩;refine zZ ?_;refine(fc.out _ _ _ _ d9.out).mono ?_;rintro e a7 ⟨rfl,ed⟩;have cb:Hid (af T a7):=ae ec.out ed;have d4:Hid (Below w.heap.size w a7):=s.out.trans ((g.out.trans (cb.out.mono g.out.size)).mono s.out.size);clear ed d9 d7;refine⟨_,rfl,cb.out,jO ?_⟩
  repeat refine zO ca.out ?_
  refine ag ?_;rcases y with _|⟨a,G⟩
  ·have H:=Lib.hid (ey.out oS oS);simp only[pmF];go_wp2;go_ret3
   exact gO.err H.out d4.out
  ·obtain⟨f0,f1,f2,f3⟩:=eA.out (a,G) rfl;have bf:=Lib.hid (fd.out oS (a,G) rfl);simp only[pmF]at bf f0 f1 f2 f3⊢;obtain⟨bd,be,b1,b2⟩:=(ca.out _ cb.out).2;go_wp2;clear bd be b1 b2;obtain⟨i,a8⟩:∃x,x=a7.alloc (em a):=⟨_,rfl⟩;rw[fl]at a8;have E:Hid (Below w.heap.size w i):=by show Below _ _ _;rw[a8];exact ah d4.out _
   have d5:Hid (aa i a7.heap.size #[.int .i64 (a:Int),dd] 60):=by show aa _ _ _ _;rw[a8,dz];exact aa.new _ _ _ _ rfl
   have d6:Hid (af T i):=by show af _ _;rw[a8];exact ah cb.out _
   rw[<-a8];clear a8;have X:Hid (af i i.drew):=ai (Below.refl _ _);have b:Hid (∀W,af i W->(W.cell? ⟨Q,0,none⟩=some (.int .i64 (n:Int))/\W.cell? ⟨Q,1,none⟩=some (.int .i64 (n:Int))/\W.cell? ⟨Q,2,none⟩=some (.slice A N j))/\W.cell? ⟨a7.heap.size,0,none⟩=some (.int .i64 (a:Int))/\W.cell? ⟨a7.heap.size,1,none⟩=some dd):=λW a5=>⟨(ca.out W (d6.out.trans (a5.mono d6.out.size))).1,(d5.out.below a5).cell 0 _ rfl,(d5.out.below a5).cell 1 _ rfl⟩;rw[dz]at b;by_cases l:a4 a=true;rotate_left
   ·rw[Bool.not_eq_true]at l;have ap:Hid (∀V,Calls Tryz.prog 29 #[bD (a:Int) _] V λe w'=>e= .returned (.bool false)/\Below V.heap.size V w'):=λV=>by have h:=b7.out V a;rw[l]at h;exact h
    have H:Hid (fM n n d=([],0,21)):=by show _=_;rw[bf.out,if_neg (by rw[l];simp)]
    refine yO (af i) [1,0,2,0,3,4,5,7,8,0,6,0,9,10,11,12,13,0,14,0,15,16] X.out ?_
    repeat refine zO b.out ?_
    refine zZ ?_;refine(ap.out _).mono ?_;rintro e am ⟨rfl,z⟩;have r:Hid (af i am):=ae X.out z;clear z;refine⟨_,rfl,r.out,jO ?_⟩
    repeat refine zO b.out ?_
    repeat
     first
     |refine mF rfl ?_
     |refine lp rfl r.out ?_
     simp only[yQ,yU,yX,yY]
    repeat refine zO b.out ?_
    repeat
     first
     |refine mF rfl ?_
     |refine lp rfl r.out ?_
     simp only[yQ,yU,yX,yY]
    repeat refine zO b.out ?_
    refine ag ?_;go_wp2;go_ret3
    exact gO.err H.out (E.out.trans (r.out.mono E.out.size))
   by_cases bt:P a=n;rotate_left
   ·skip
    have ap:Hid (∀V,Calls Tryz.prog 29 #[bD (a:Int) _] V λe w'=>e= .returned (.bool true)/\Below V.heap.size V w'):=λV=>by have h:=b7.out V a;rw[l]at h;exact h
    have bx:Hid (∀V,Calls Tryz.prog 36 #[bD (a:Int) _] V λe w'=>e= .returned (.int .i64 ((P a:Nat):Int))/\Below V.heap.size V w'):=λV=>by have h:=co.out V a l;exact h
    have gv:(((P a:Nat):Int)!=(n:Int))=true:=by rw[bne_iff_ne];omega
    have H:Hid (fM n n d=([],0,21)):=by show _=_;rw[bf.out,if_neg (by rw[show(P a==n)=false from beq_eq_false_iff_ne.2 bt];simp)]
    refine yO (af i) [1,0,2,0,3,4,5,7,8,0,6,0,9,10,11,12,13,0,14,0,15,16] X.out ?_
    repeat refine zO b.out ?_
    refine zZ ?_;refine(ap.out _).mono ?_;rintro e am ⟨rfl,z⟩;have r:Hid (af i am):=ae X.out z;clear z;refine⟨_,rfl,r.out,jO ?_⟩
    repeat refine zO b.out ?_
    repeat refine zX b.out ?_
    refine zZ ?_;refine(bx.out _).mono ?_;rintro e bv ⟨rfl,Y⟩;have J:Hid (af i bv):=ae r.out Y;clear Y;refine⟨_,rfl,J.out,jO ?_⟩
    repeat refine zX b.out ?_
    repeat refine zO b.out ?_
    repeat
     first
     |refine mF rfl ?_
     |refine lp rfl J.out ?_
     simp only[yQ,yU,yX,yY]
    repeat refine zO b.out ?_
    refine ag ?_;go_wp2;go_ret3
    exact gO.err H.out (E.out.trans (J.out.mono E.out.size))
   by_cases gw:G<wf a;rotate_left
   ·skip
    have ap:Hid (∀V,Calls Tryz.prog 29 #[bD (a:Int) _] V λe w'=>e= .returned (.bool true)/\Below V.heap.size V w'):=λV=>by have h:=b7.out V a;rw[l]at h;exact h
    have bx:Hid (∀V,Calls Tryz.prog 36 #[bD (a:Int) _] V λe w'=>e= .returned (.int .i64 ((n:Nat):Int))/\Below V.heap.size V w'):=λV=>by have h:=co.out V a l;rw[bt]at h;exact h
    have c6:=Lib.hid (λV=>dy.out V a l);have f4:((wf a:Nat):Int)<=(G:Int):=oO;have H:Hid (fM n n d=([],0,21)):=by show _=_;rw[bf.out,if_neg (by rw[show decide (G<wf a)=false from decide_eq_false oO];simp)]
    refine yO (af i) [1,0,2,0,3,4,5,7,8,0,6,0,9,10,11,12,13,0,14,0,15,16] X.out ?_
    repeat refine zO b.out ?_
    refine zZ ?_;refine(ap.out _).mono ?_;rintro e am ⟨rfl,z⟩;have r:Hid (af i am):=ae X.out z;clear z;refine⟨_,rfl,r.out,jO ?_⟩
    repeat refine zO b.out ?_
    repeat refine zX b.out ?_
    refine zZ ?_;refine(bx.out _).mono ?_;rintro e bv ⟨rfl,Y⟩;have J:Hid (af i bv):=ae r.out Y;clear Y;refine⟨_,rfl,J.out,jO ?_⟩
    repeat refine zX b.out ?_
    repeat refine zO b.out ?_
    repeat refine zX b.out ?_
    refine zZ ?_;refine(c6.out _).mono ?_;rintro e c4 ⟨rfl,bz⟩;have av:Hid (af i c4):=ae J.out bz;clear bz;refine⟨_,rfl,av.out,jO ?_⟩
    repeat refine zX b.out ?_
    repeat refine zO b.out ?_
    refine ag ?_;go_wp2;go_ret3
    exact gO.err H.out (E.out.trans (av.out.mono E.out.size))
   ·skip
    have ap:Hid (∀V,Calls Tryz.prog 29 #[bD (a:Int) _] V λe w'=>e= .returned (.bool true)/\Below V.heap.size V w'):=λV=>by have h:=b7.out V a;rw[l]at h;exact h
    have bx:Hid (∀V,Calls Tryz.prog 36 #[bD (a:Int) _] V λe w'=>e= .returned (.int .i64 ((n:Nat):Int))/\Below V.heap.size V w'):=λV=>by have h:=co.out V a l;rw[bt]at h;exact h
    have c6:=Lib.hid (λV=>dy.out V a l);have f4:¬((wf a:Nat):Int)<=(G:Int):=oO;have H:Hid (fM n n d=ch a G):=by show _=_;rw[bf.out,if_pos (by rw[l,show(P a==n)=true from beq_iff_eq.2 bt,show decide (G<wf a)=true from decide_eq_true oO];rfl)]
    have f5:=Lib.hid (λV u=>fe.out V a G u l bt oO oO);refine yO (af i) [1,0,2,0,3,4,5,7,8,0,6,0,9,10,11,12,13,0,14,0,15,16] X.out ?_
    repeat refine zO b.out ?_
    refine zZ ?_;refine(ap.out _).mono ?_;rintro e am ⟨rfl,z⟩;have r:Hid (af i am):=ae X.out z;clear z;refine⟨_,rfl,r.out,jO ?_⟩
    repeat refine zO b.out ?_
    repeat refine zX b.out ?_
    refine zZ ?_;refine(bx.out _).mono ?_;rintro e bv ⟨rfl,Y⟩;have J:Hid (af i bv):=ae r.out Y;clear Y;refine⟨_,rfl,J.out,jO ?_⟩
    repeat refine zX b.out ?_
    repeat refine zO b.out ?_
    repeat refine zX b.out ?_
    refine zZ ?_;refine(c6.out _).mono ?_;rintro e c4 ⟨rfl,bz⟩;have av:Hid (af i c4):=ae J.out bz;clear bz;refine⟨_,rfl,av.out,jO ?_⟩
    repeat refine zX b.out ?_
    repeat refine zO b.out ?_
    refine ag ?_;obtain⟨⟨ac,ad,al⟩,bd,be⟩:=b.out _ av.out;go_wp2_with(go_at_call 45;refine(f5.out _ (E.out.trans (av.out.mono E.out.size))).mono ?_;rintro e f6 ⟨f7,f8,f9,rfl,ef,eh⟩;have ge:=Lib.hid ef;have gg:Hid (af i f6):=ae av.out eh;clear eh ef)
    go_ret3
    rw[H.out];exact⟨f7,f8,f9,rfl,ge.out,E.out.trans (gg.out.mono E.out.size)⟩
theorem Db (W H:Int) (A:Option Addr) (N c:Nat) (d:List Bool) (w:World) (i:SR vB false w A N c d):Calls Tryz.prog 14 #[fq W H A N c] w (gO w (fM W H d)):=by
 have hn:=i.hn;have q:N<=9223372036854775807:=by have:=i.hm;have:=i.hc;unfold maxLen at*;omega
 cases f:eD W H N with
 |false=>exact Gc W H A N c d w q f hn.symm
 |true=>
  obtain⟨n,m,rfl,rfl,n1,n2,r,s,e,l⟩:=DF f;by_cases p:n=m
  ·subst p;have o:eD n n d.length=true:=by rw[<-hn];exact f
   cases a:dL n true with
   |false=>
    cases b:dL n false with
    |false=>exact Dy n n A N c d w n2 l f hn.symm rfl a b
    |true=>
     cases g:jf n ((n-1)/2) false d with
     |true=>exact ns n A N c d w e l f i _ _ _ _ false a b g rfl b (jY (k:=some false) o (.inr b) (by unfold kN;rw[b,g];rfl)) (.inl ⟨rfl,rfl,rfl⟩)
     |false=>exact sQ n A N c d w e l f i _ _ _ _ false a b g rfl b (jY (k:=none) o (.inr b) (by unfold kN;rw[a,b,g];rfl)) (.inl ⟨rfl,rfl,rfl⟩)
   |true=>
    cases b:dL n false with
    |false=>
     cases j:jf n ((n-1)/2) true d with
     |true=>exact ns n A N c d w e l f i _ _ _ _ true a b rfl j a (jY (k:=some true) o (.inl a) (by unfold kN;rw[a,b,j];rfl)) (.inr (.inr ⟨rfl,rfl,rfl,rfl⟩))
     |false=>exact sQ n A N c d w e l f i _ _ _ _ true a b rfl j a (jY (k:=none) o (.inl a) (by unfold kN;rw[a,b,j];rfl)) (.inr (.inr ⟨rfl,rfl,rfl⟩))
    |true=>
     cases g:jf n ((n-1)/2) false d with
     |true=>exact ns n A N c d w e l f i _ _ _ _ false a b g rfl b (jY (k:=some false) o (.inl a) (by unfold kN;rw[b,g];rfl)) (.inl ⟨rfl,rfl,rfl⟩)
     |false=>
      cases j:jf n ((n-1)/2) true d with
      |true=>exact ns n A N c d w e l f i _ _ _ _ true a b g j a (jY (k:=some true) o (.inl a) (by unfold kN;rw[a,b,g,j];rfl)) (.inr (.inl ⟨rfl,rfl,rfl,rfl,rfl⟩))
      |false=>exact sQ n A N c d w e l f i _ _ _ _ true a b g j a (jY (k:=none) o (.inl a) (by unfold kN;rw[a,b,g,j];rfl)) (.inr (.inl ⟨rfl,rfl,rfl,rfl⟩))
  ·exact Ds n m A N c d w n2 l f hn.symm p _ _ rfl rfl
end
end Go.Proofs.YtmnlkganmgcpbaaGreatDoor
