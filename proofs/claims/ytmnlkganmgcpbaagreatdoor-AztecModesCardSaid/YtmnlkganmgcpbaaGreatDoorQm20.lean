import Derived.Test.YtmnlkganmgcpbaaGreatDoorQm19
import Derived.Test.YtmnlkganmgcpbaaGreatDoorQm17
import Derived.Test.YtmnlkganmgcpbaaGreatDoorQm7
set_option maxRecDepth 100000
set_option maxHeartbeats 4000000
set_option linter.unusedVariables false
set_option linter.unusedSectionVars false
set_option linter.unusedSimpArgs false
namespace Go.Proofs.YtmnlkganmgcpbaaGreatDoor
section
open Go.RowKit
def cR (C:Nat) (c:Bool):List Pt:=(bn c).map λa=>(nW C a,C-cK c)
def dZ (C:Nat) (c:Bool):List Pt:=(bn c).map λa=>(C+cK c,nW C a)
def gm (C:Nat) (c:Bool):List Pt:=(bn c).reverse.map λa=>(nW C a,C+cK c)
def ld (C:Nat) (c:Bool):List Pt:=(bn c).reverse.map λa=>(C-cK c,nW C a)
theorem tE (C:Nat) (c:Bool):fS C c=cR C c++dZ C c++gm C c++ld C c:=rfl
theorem mw {α a:Type} (f:α->a) (l:List α) (d:α) (e:a) {j:Nat} (b:j<l.length):(l.map f).getD j e=f (l.getD j d):=by simp[List.getD,b]
theorem Bh {α:Type} (l:List α) (d:α) {j:Nat} (a:j<l.length):l.reverse.getD j d=l.getD (l.length-1-j) d:=by
 simp[List.getD,List.getElem?_reverse a]
theorem jg {α:Type} (l:List α) (d:α) {j:Nat} (a:j<l.length):l.take (j+1)=l.take j++[l.getD j d]:=by
 rw[List.take_succ_eq_append_getElem a];simp[List.getD,a]
theorem jE {c:Bool} {j:Nat} (a:j<(bn c).length):-((cK c:Nat):Int)+2<=(bn c).getD j 0/\(bn c).getD j 0+2<=((cK c:Nat):Int):=by
 refine DL ?_;simp only[List.getD,List.getElem?_eq_getElem a,Option.getD_some];exact List.getElem_mem a
theorem dQ (C:Nat) (c:Bool):(cR C c).length=(bn c).length/\(dZ C c).length=(bn c).length/\(gm C c).length=(bn c).length/\(ld C c).length=(bn c).length:=by
 simp[cR,dZ,gm,ld]
abbrev fQ (n:Nat) (c:Bool) (C m:Nat):Value:= .agg #[.int .i64 (n:Int),.bool c,.int .i64 (C:Int),.int .i64 (m:Int)]
theorem mQ (C:Nat) (c:Bool) (e:cK c<=C) (k j:Nat) (f:k<4) (a:j<(bn c).length):∃x y:Nat,(match k with|0=>cR C c|1=>dZ C c|2=>gm C c|_=>ld C c).getD j (0,0)=(x,y)/\
 (k=0->((C:Int)+(bn c).getD j 0=(x:Int)/\(C:Int)-((cK c:Nat):Int)=(y:Int)))/\(k=1->((C:Int)+((cK c:Nat):Int)=(x:Int)/\(C:Int)+(bn c).getD j 0=(y:Int)))/\
 (k=2->((C:Int)+(bn c).getD ((bn c).length-1-j) 0=(x:Int)/\(C:Int)+((cK c:Nat):Int)=(y:Int)))/\(k=3->((C:Int)-((cK c:Nat):Int)=(x:Int)/\(C:Int)+(bn c).getD ((bn c).length-1-j) 0=(y:Int)))/\x<=2* C/\y<=2* C:=by
 have g:=jE a;have d:(bn c).length-1-j<(bn c).length:=oO;have i:=jE d;have b:j<(bn c).reverse.length:=by simpa using a
 obtain rfl|rfl|rfl|rfl:k=0\/k=1\/k=2\/k=3:=oO
 ·refine⟨_,_,mw _ _ 0 _ a,λ_=>?_,λh=>by omega,λh=>by omega,λh=>by omega,?_,?_⟩<;>(try unfold nW)<;>omega
 ·refine⟨_,_,mw _ _ 0 _ a,λh=>by omega,λ_=>?_,λh=>by omega,λh=>by omega,?_,?_⟩<;>(try unfold nW)<;>omega
 ·refine⟨_,_,(mw _ _ 0 _ b).trans (by rw[Bh _ _ a]),λh=>by omega,λh=>by omega,λ_=>?_,λh=>by omega,?_,?_⟩<;>(try unfold nW)<;>omega
 ·refine⟨_,_,(mw _ _ 0 _ b).trans (by rw[Bh _ _ a]),λh=>by omega,λh=>by omega,λh=>by omega,λ_=>?_,?_,?_⟩<;>(try unfold nW)<;>omega
theorem Bi (n:Nat) (w:World) (b:1<=n) (hn:n<=100000000):Calls Tryz.prog 39 #[.int .i64 n,.bool true] w λe w'=>e= .returned (fQ n true ((n-1)/2) 5)/\Below w.heap.size w w':=by
 obtain⟨t,a⟩:∃t,t=(n-1)/2:=⟨_,rfl⟩;have e1:((n:Int)-1)/2=(t:Int):=oO;have c:t<=100000000:=oO;rw[<-a];clear a;go_enter Tryz.func39,Tryz.ntmps39;go_wp2;exact bodyPost_ret (v:=fQ n true t 5) (by simp[results,Tryz.results39,go_sem]) rfl ⟨rfl,ah (ax _ _) _⟩
theorem y0 (n:Nat) (w:World) (b:1<=n) (hn:n<=100000000):Calls Tryz.prog 39 #[.int .i64 n,.bool false] w λe w'=>e= .returned (fQ n false ((n-1)/2) 7)/\Below w.heap.size w w':=by
 obtain⟨t,a⟩:∃t,t=(n-1)/2:=⟨_,rfl⟩;have e1:((n:Int)-1)/2=(t:Int):=oO;have c:t<=100000000:=oO;rw[<-a];clear a;go_enter Tryz.func39,Tryz.ntmps39;go_wp2;exact bodyPost_ret (v:=fQ n false t 7) (by simp[results,Tryz.results39,go_sem]) rfl ⟨rfl,ah (ax _ _) _⟩
theorem tG (n:Nat) (c:Bool) (w:World) (a:1<=n) (hn:n<=100000000):Calls Tryz.prog 39 #[.int .i64 n,.bool c] w λe w'=>e= .returned (fQ n c ((n-1)/2) (cK c))/\Below w.heap.size w w':=by
 cases c with
 |true=>exact Bi n w a hn
 |false=>exact y0 n w a hn
def iI (c:Bool) (t:Nat):List Int:=((List.range t).map λi:Nat=>(2:Int)-((cK c:Nat):Int)+(i:Int)).filter λa=>!(a==0)||c
theorem An (c:Bool) (t:Nat):iI c (t+1)=if(!((2:Int)-((cK c:Nat):Int)+(t:Int)==0)||c)=true then iI c t++[(2:Int)-((cK c:Nat):Int)+(t:Int)]else iI c t:=by
 unfold iI;rw[List.range_succ,List.map_append,List.filter_append];simp only[List.map_cons,List.map_nil,List.filter_cons,List.filter_nil];split<;>simp
theorem CW (c:Bool):iI c (2* cK c-3)=bn c:=by cases c<;>decide
theorem wT (c:Bool) (t:Nat):(iI c t).length<=t:=by
 unfold iI;exact Nat.le_trans (List.length_filter_le _ _) oS
theorem yS (s C:Nat) (w:World) (a1:5<=C) (d1:C<=100000000):Calls Tryz.prog 43 #[fQ s true C 5] w λe w'=>∃v,e= .returned v/\fN w.heap.size w' v (fS C true)/\Below w.heap.size w w':=by
 obtain⟨cq,cr,c9,di,dl⟩:=info_parts rM;obtain⟨b6,T,b8,b9,ca⟩:=info_parts bZ;obtain⟨O,am⟩:∃O,O=w.alloc (.cells #[.int .i64 (s:Int),.bool true,.int .i64 (C:Int),.int .i64 5] 71):=⟨_,rfl⟩;have cb:Hid (Below w.heap.size w O):=by show Below _ _ _;rw[am];exact ax _ _
 have bo:Hid (ae O w.heap.size #[.int .i64 (s:Int),.bool true,.int .i64 (C:Int),.int .i64 5] 71):=by show ae _ _ _ _;rw[am];exact ae.new _ _ _ _ oS
 have a8:Hid (∀W,af O W->W.cell? ⟨w.heap.size,1,none⟩=some (.bool true)/\W.cell? ⟨w.heap.size,2,none⟩=some (.int .i64 (C:Int))/\W.cell? ⟨w.heap.size,3,none⟩=some (.int .i64 5)):=λW k=>⟨(bo.out.below k).cell 1 _ rfl,(bo.out.below k).cell 2 _ rfl,(bo.out.below k).cell 3 _ rfl⟩;have ce:Hid (OG vI 3 O O (.slice none 0 0) (iI true 0)):=OG.start _ _;obtain⟨ac,ad,al⟩:=a8.out _ (Below.refl _ _);rw[am]at ac ad al;go_enter Tryz.func43,Tryz.ntmps43;go_wp2;rw[<-am];clear ac ad al am;go_loopw [3,4] (λg o wr=>∃t:Nat,t<=7/\o= .int .i64 (-3+(t:Int))/\Hid (OG vI 3 O wr g (iI true t))) (λ_ o _=>10-(intOf o+5).toNat)
 case atStart=>exact⟨0,by omega,rfl,ce.out⟩
 case round=>
  clear ce;obtain⟨t,cs,rfl,a⟩:=hrel;obtain⟨ac,ad,al⟩:=a8.out _ a.out.B;have a9:=Lib.hid (An true t);by_cases B:t<7
  ·have d2:(-3:Int)+(t:Int)<=3:=oO;have G:Hid ((iI true t).length<=100):=by show _<=_;have:=wT true t;omega
   by_cases P:t=3
   ·have bb:Hid (iI true (t+1)=iI true t++[0]):=by show _=_;rw[a9.out,P,if_pos oS];rfl
    have cv:(-3:Int)+(t:Int)=0:=oO;go_wp2_with(at_builtin;refine bg (f:=vI) (d:=0) IS rfl _ _ _ rfl O.heap.size 3 b6 _ 8 Tryz.underlying64 T b8 b9 ca rfl _ (iI true t).length (iI true t) rfl (ao a.out.O (ax _ _)) (some ⟨wr.heap.size,0,none⟩) 1 1 [0] rfl rfl (RG.one _ _ _ _ rfl) (by have:=G.out;unfold maxLen;omega) (by have:=G.out;omega) (by have:=a.out.B.size;simp;omega) ?_;intro cx cy m hg;have r:=Lib.hid (a.out.grow (ax _ _) m hg);clear m hg)
    exact⟨⟨t+1,by omega,by go_num,by show OG _ _ _ _ _ _;rw[bb.out];exact r.out⟩,by simp[intOf];omega⟩
   ·have bb:Hid (iI true (t+1)=iI true t++[-3+(t:Int)]):=by show _=_;rw[a9.out,if_pos oS];rfl
    have z:((-3:Int)+(t:Int)==0)=false:=by rw[beq_eq_false_iff_ne];omega
    have dy:((-3:Int)+(t:Int)!=0)=true:=by rw[bne,z];rfl
    have cv:¬((-3:Int)+(t:Int)=0):=oO;go_wp2_with(at_builtin;refine bg (f:=vI) (d:=0) IS rfl _ _ _ rfl O.heap.size 3 b6 _ 8 Tryz.underlying64 T b8 b9 ca rfl _ (iI true t).length (iI true t) rfl (ao a.out.O (ax _ _)) (some ⟨wr.heap.size,0,none⟩) 1 1 [-3+(t:Int)] rfl rfl (RG.one _ _ _ _ rfl) (by have:=G.out;unfold maxLen;omega) (by have:=G.out;omega) (by have:=a.out.B.size;simp;omega) ?_;intro cx cy m hg;have r:=Lib.hid (a.out.grow (ax _ _) m hg);clear m hg)
    exact⟨⟨t+1,by omega,by go_num,by show OG _ _ _ _ _ _;rw[bb.out];exact r.out⟩,by simp[intOf];omega⟩
  ·obtain rfl:t=7:=oO;have d3:¬((-3:Int)+((7:Nat):Int)<=3):=oO;have bq:=SG.bK (d:=0) a.out.O;rw[show iI true 7=bn true from CW true]at bq;have cg:=Lib.hid bq;clear bq;have bs:=Lib.hid a.out.B;clear a a9 cs B;obtain⟨b,rfl⟩:∃b:World,b=wr:=⟨_,rfl⟩;obtain⟨A,n,d0,rfl,bd⟩:=cg.out.parts;have ch:=Lib.hid bd;have hn:n=7:=bd.hn;subst hn;clear bd cg;obtain⟨X,rfl,cp,ci⟩:=ch.out.rd oD;have a2:Hid (∀W,af b W->∀j:Nat,j<7->W.cell? (X.add j)=some (.int .i64 ((bn true).getD j 0))):=λW k j T=>(k.cell (by rw[aI];exact cp)).trans (ci j (by show j<(bn true).length;exact T));have a3:Hid (∀W,af b W->W.cell? ⟨w.heap.size,1,none⟩=some (.bool true)/\W.cell? ⟨w.heap.size,2,none⟩=some (.int .i64 (C:Int))/\W.cell? ⟨w.heap.size,3,none⟩=some (.int .i64 5)):=λW k=>a8.out W (aa bs.out k);clear cp ci ch;go_wp2_with(at_make;refine wpList_make_own _ rfl _ _ _ rfl b.heap.size 47 cq _ 2 Tryz.underlying40 cr c9 di .i64 .i64 _ 28 rfl rfl (by first|rfl|omega) (by rw[dl];omega) oM (Nat.le_refl _) ?_;intro b7 m hg;have ck:Hid (Below b.heap.size b b7):=(Below.refl _ _).grown hg (Nat.le_refl _) (λq hq=>by cases hq);have co:Hid (dj b b7 (.slice (some ⟨b.heap.size,0,none⟩) 0 28) ([]++(cR C true).take 0)):=⟨ck.out,m⟩;clear m hg ac ad al)
   clear ck;go_loopw [7,43] (λg o wr=>∃j:Nat,j<=7/\o= .int .i64 (j:Int)/\Hid (dj b wr g ([]++(cR C true).take j))) (λ_ o _=>7-(intOf o).toNat)
   case atStart=>exact⟨0,by omega,rfl,co.out⟩
   case round=>
    clear co;obtain⟨j,T,rfl,a⟩:=hrel;by_cases B:j<7
    ·obtain⟨x,y,L,P,U,l,V,bt,bv⟩:=mQ C true a1 0 j oO B;have M:Hid ([]++(cR C true).take (j+1)=([]++(cR C true).take j)++[(x,y)]):=by show _=_;rw[jg _ (0,0) (by rw[(dQ C true).1];exact B),<-List.append_assoc];exact congrArg (λp=>_++[p]) L
     have G:Hid (([]++(cR C true).take j).length<=100):=by
      show _<=_;have:=dQ C true;have hn:(bn true).length=7:=rfl;simp only[List.length_append,List.length_take,List.length_nil,this.1,this.2.1,this.2.2.1,this.2.2.2,hn];omega
     have D:=P rfl;have H:=D.1;have J:=D.2;have N:(bn true).getD j 0=(bn true).getD (j) 0:=by rfl
     rw[<-N]at H;have K:=jE (c:=true) (j:=j) B;have Z:Hid (∀W,af b W->W.cell? (X.add j)=some (.int .i64 ((bn true).getD j 0))):=λW k=>a2.out W k _ B;simp only[cK,Bool.false_eq_true,if_false,if_true]at H J K;generalize(bn true).getD j 0=E at*;have bx:-5<=E:=oO;have bz:E<=5:=oO;have b1:(C:Int)-5=(y:Int):=oO;clear J;clear P U l V D L N K;have c2:=Z.out _ a.out.B;obtain⟨ac,ad,al⟩:=a3.out _ a.out.B;generalize[]++(cR C true).take j=Y at*;go_wp2_with(at_builtin;refine iS (ao a.out.O (ax _ _)) (Nat.le_trans a.out.B.size oS) rfl _ _ rfl rfl ⟨wr.heap.size,0,none⟩ 1 1 [(x,y)] rfl rfl (gh wr [(x,y)] _) (by have:=G.out;omega) ?_;intro v6 F m hg b2;have r:=Lib.hid (a.out.grow (ax _ _) m hg);clear m hg b2)
     first|exact⟨⟨j+1,by omega,by go_num,by show dj _ _ _ _;rw[M.out];exact r.out⟩,by simp[intOf];omega⟩|exact⟨⟨_,_,_,_,_,_,_,_,_,_,_,_,_,_,_,_,_,_,_,_,_,_,_,⟨j+1,by omega,by go_num,by show dj _ _ _ _;rw[M.out];exact r.out⟩,rfl⟩,by show 7-(intOf (.int .i64 ((j:Int)+1))).toNat<7-(intOf (.int .i64 (j:Int))).toNat;simp[intOf];omega⟩
    ·obtain rfl:j=7:=oO;have a4:∀g W,Hid (dj b W g ([]++(cR C true).take 7))->Hid (dj b W g (cR C true++(dZ C true).take 0)):=λg W h=>by show dj _ _ _ _;have l:=h.out;rw[List.take_of_length_le (by simp[cR];decide)]at l;simpa using l
     have a4:=a4 _ _ a;clear a;go_wp2;go_loopw [7,61] (λg o wr=>∃j:Nat,j<=7/\o= .int .i64 (j:Int)/\Hid (dj b wr g (cR C true++(dZ C true).take j))) (λ_ o _=>7-(intOf o).toNat)
     case atStart=>exact⟨0,by omega,rfl,a4.out⟩
     case round=>
      clear a4;obtain⟨j,T,rfl,a⟩:=hrel;by_cases B:j<7
      ·obtain⟨x,y,L,P,U,l,V,bt,bv⟩:=mQ C true a1 1 j oO B;have M:Hid (cR C true++(dZ C true).take (j+1)=(cR C true++(dZ C true).take j)++[(x,y)]):=by show _=_;rw[jg _ (0,0) (by rw[(dQ C true).2.1];exact B),<-List.append_assoc];exact congrArg (λp=>_++[p]) L
       have G:Hid ((cR C true++(dZ C true).take j).length<=100):=by
        show _<=_;have:=dQ C true;have hn:(bn true).length=7:=rfl;simp only[List.length_append,List.length_take,List.length_nil,this.1,this.2.1,this.2.2.1,this.2.2.2,hn];omega
       have D:=U rfl;have H:=D.1;have J:=D.2;have N:(bn true).getD j 0=(bn true).getD (j) 0:=by rfl
       rw[<-N]at J;have K:=jE (c:=true) (j:=j) B;have Z:Hid (∀W,af b W->W.cell? (X.add j)=some (.int .i64 ((bn true).getD j 0))):=λW k=>a2.out W k _ B;simp only[cK,Bool.false_eq_true,if_false,if_true]at H J K;generalize(bn true).getD j 0=E at*;have bx:-5<=E:=oO;have bz:E<=5:=oO;have b1:(C:Int)+5=(x:Int):=oO;clear H;clear P U l V D L N K;have c2:=Z.out _ a.out.B;obtain⟨ac,ad,al⟩:=a3.out _ a.out.B;generalize cR C true++(dZ C true).take j=Y at*;go_wp2_with(at_builtin;refine iS (ao a.out.O (ax _ _)) (Nat.le_trans a.out.B.size oS) rfl _ _ rfl rfl ⟨wr.heap.size,0,none⟩ 1 1 [(x,y)] rfl rfl (gh wr [(x,y)] _) (by have:=G.out;omega) ?_;intro v6 F m hg b2;have r:=Lib.hid (a.out.grow (ax _ _) m hg);clear m hg b2)
       first|exact⟨⟨j+1,by omega,by go_num,by show dj _ _ _ _;rw[M.out];exact r.out⟩,by simp[intOf];omega⟩|exact⟨⟨_,_,_,_,_,_,_,_,_,_,_,_,_,_,_,_,_,_,⟨j+1,by omega,by go_num,by show dj _ _ _ _;rw[M.out];exact r.out⟩,rfl⟩,by show 7-(intOf (.int .i64 ((j:Int)+1))).toNat<7-(intOf (.int .i64 (j:Int))).toNat;simp[intOf];omega⟩
      ·obtain rfl:j=7:=oO;have a5:∀g W,Hid (dj b W g (cR C true++(dZ C true).take 7))->Hid (dj b W g (cR C true++dZ C true++(gm C true).take 0)):=λg W h=>by show dj _ _ _ _;have l:=h.out;rw[List.take_of_length_le (by simp[dZ];decide)]at l;simpa using l
       have a5:=a5 _ _ a;clear a;go_wp2;go_loopw [7,78] (λg o wr=>∃j:Nat,j<=7/\o= .int .i64 (j:Int)/\Hid (dj b wr g (cR C true++dZ C true++(gm C true).take j))) (λ_ o _=>7-(intOf o).toNat)
       case atStart=>exact⟨0,by omega,rfl,a5.out⟩
       case round=>
        clear a5;obtain⟨j,T,rfl,a⟩:=hrel;by_cases B:j<7
        ·obtain⟨x,y,L,P,U,l,V,bt,bv⟩:=mQ C true a1 2 j oO B;have M:Hid (cR C true++dZ C true++(gm C true).take (j+1)=(cR C true++dZ C true++(gm C true).take j)++[(x,y)]):=by show _=_;rw[jg _ (0,0) (by rw[(dQ C true).2.2.1];exact B),<-List.append_assoc];exact congrArg (λp=>_++[p]) L
         have G:Hid ((cR C true++dZ C true++(gm C true).take j).length<=100):=by
          show _<=_;have:=dQ C true;have hn:(bn true).length=7:=rfl;simp only[List.length_append,List.length_take,List.length_nil,this.1,this.2.1,this.2.2.1,this.2.2.2,hn];omega
         have D:=l rfl;have H:=D.1;have J:=D.2;obtain⟨i,ap⟩:∃i,i=7-1-j:=⟨_,rfl⟩;have b5:(6:Int)-(j:Int)=(i:Int):=oO;have a0:i<7:=oO;have dx:(i:Int)<7:=oO;have ds:IntKind.i64.wrap 6=6:=aE _ oO oO;have dv:IntKind.i64.wrap (6-(j:Int))=(i:Int):=by rw[aE _ oO oO];omega
         have N:(bn true).getD i 0=(bn true).getD ((bn true).length-1-j) 0:=by rw[ap];rfl
         rw[<-N]at H;have K:=jE (c:=true) (j:=i) a0;have Z:Hid (∀W,af b W->W.cell? (X.add i)=some (.int .i64 ((bn true).getD i 0))):=λW k=>a2.out W k _ a0;simp only[cK,Bool.false_eq_true,if_false,if_true]at H J K;generalize(bn true).getD i 0=E at*;have bx:-5<=E:=oO;have bz:E<=5:=oO;have b1:(C:Int)+5=(y:Int):=oO;clear J;clear P U l V D L N K ap b5;have av:Hid (∀W,af b W->(W.cell? ⟨w.heap.size,1,none⟩=some (.bool true)/\W.cell? ⟨w.heap.size,2,none⟩=some (.int .i64 (C:Int))/\W.cell? ⟨w.heap.size,3,none⟩=some (.int .i64 5))/\W.cell? (X.add i)=some (.int .i64 E)):=λW k=>⟨a3.out W k,Z.out W k⟩;have c3:IntKind.i64.wrap (x:Int)=(x:Int):=aE _ oO oO;have c4:IntKind.i64.wrap (y:Int)=(y:Int):=aE _ oO oO;have c5:IntKind.i64.wrap ((C:Int)+E)=(x:Int):=by rw[aE _ oO oO];omega
         have c6:IntKind.i64.wrap ((C:Int)+5)=(y:Int):=by rw[aE _ oO oO];omega
         obtain⟨c7,c8,e5⟩:=cd a.out.O;subst e5;generalize cR C true++dZ C true++(gm C true).take j=Y at*;have b3:Hid (af b wr.drew):=ai a.out.B;go_wp2;refine yO (λW=>af b W) [1,2,3,4,5,6,7,8,9,10,11,12,13,14,15,0,16,17,0,18] b3.out ?_
         repeat refine zO av.out ?_
         obtain⟨F,Q⟩:∃F,F=wr.drew.alloc (.cells #[.int .i64 (x:Int),.int .i64 (y:Int)] 47):=⟨_,rfl⟩;have S:Hid (Below wr.heap.size wr F):=by show Below _ _ _;rw[Q];exact ah (ai (Below.refl _ _)) _
         obtain⟨lb,ab⟩:∃lb,lb=wr.heap.size:=⟨_,rfl⟩;have b4:Hid (∀j u,(([(x,y)]:List Pt).flatMap eS)[j]?=some u->F.cell? ((⟨lb,0,none⟩:Addr).add j)=some u):=by show∀_ _,_;rw[Q,ab];exact gh wr.drew [(x,y)] _
         refine' zQ (v:= .slice (some ⟨lb,0,none⟩) 1 1) (w':=F) rfl (by rw[Q,ab];go_simp) (aa a.out.B S.out) ?_;clear Q ab;refine' fY (ys:=[(x,y)]) (ao a.out.O S.out) (Nat.le_trans a.out.B.size S.out.size) rfl _ _ rfl rfl rfl rfl b4.out (by have:=G.out;omega) ?_;intro be bf bi m hg;have r:Hid (dj b bi (.slice be (Y.length+1) bf) (Y++[(x,y)])):=a.out.grow S.out m hg;clear m hg;refine⟨r.out.B,?_⟩;simp only[yQ,yU,yX,yY]
         repeat refine zO av.out ?_
         refine ag ?_;go_wp2;first|exact⟨⟨j+1,by omega,by go_num,by show dj _ _ _ _;rw[M.out];exact r.out⟩,by simp[intOf];omega⟩|exact⟨⟨_,_,_,_,_,_,_,_,_,_,_,_,_,_,_,_,_,_,_,_,_,_,_,⟨j+1,by omega,by go_num,by show dj _ _ _ _;rw[M.out];exact r.out⟩,rfl⟩,by show 7-(intOf (.int .i64 ((j:Int)+1))).toNat<7-(intOf (.int .i64 (j:Int))).toNat;simp[intOf];omega⟩
        ·obtain rfl:j=7:=oO;have a6:∀g W,Hid (dj b W g (cR C true++dZ C true++(gm C true).take 7))->Hid (dj b W g (cR C true++dZ C true++gm C true++(ld C true).take 0)):=λg W h=>by show dj _ _ _ _;have l:=h.out;rw[List.take_of_length_le (by simp[gm];decide)]at l;simpa using l
         have a6:=a6 _ _ a;clear a;go_wp2;go_loopw [7,100] (λg o wr=>∃j:Nat,j<=7/\o= .int .i64 (j:Int)/\Hid (dj b wr g (cR C true++dZ C true++gm C true++(ld C true).take j))) (λ_ o _=>7-(intOf o).toNat)
         case atStart=>exact⟨0,by omega,rfl,a6.out⟩
         case round=>
          clear a6;obtain⟨j,T,rfl,a⟩:=hrel;by_cases B:j<7
          ·obtain⟨x,y,L,P,U,l,V,bt,bv⟩:=mQ C true a1 3 j oO B;have M:Hid (cR C true++dZ C true++gm C true++(ld C true).take (j+1)=(cR C true++dZ C true++gm C true++(ld C true).take j)++[(x,y)]):=by show _=_;rw[jg _ (0,0) (by rw[(dQ C true).2.2.2];exact B),<-List.append_assoc];exact congrArg (λp=>_++[p]) L
           have G:Hid ((cR C true++dZ C true++gm C true++(ld C true).take j).length<=100):=by
            show _<=_;have:=dQ C true;have hn:(bn true).length=7:=rfl;simp only[List.length_append,List.length_take,List.length_nil,this.1,this.2.1,this.2.2.1,this.2.2.2,hn];omega
           have D:=V rfl;have H:=D.1;have J:=D.2;obtain⟨i,ap⟩:∃i,i=7-1-j:=⟨_,rfl⟩;have b5:(6:Int)-(j:Int)=(i:Int):=oO;have a0:i<7:=oO;have dx:(i:Int)<7:=oO;have ds:IntKind.i64.wrap 6=6:=aE _ oO oO;have dv:IntKind.i64.wrap (6-(j:Int))=(i:Int):=by rw[aE _ oO oO];omega
           have N:(bn true).getD i 0=(bn true).getD ((bn true).length-1-j) 0:=by rw[ap];rfl
           rw[<-N]at J;have K:=jE (c:=true) (j:=i) a0;have Z:Hid (∀W,af b W->W.cell? (X.add i)=some (.int .i64 ((bn true).getD i 0))):=λW k=>a2.out W k _ a0;simp only[cK,Bool.false_eq_true,if_false,if_true]at H J K;generalize(bn true).getD i 0=E at*;have bx:-5<=E:=oO;have bz:E<=5:=oO;have b1:(C:Int)-5=(x:Int):=oO;clear H;clear P U l V D L N K ap b5;have av:Hid (∀W,af b W->(W.cell? ⟨w.heap.size,1,none⟩=some (.bool true)/\W.cell? ⟨w.heap.size,2,none⟩=some (.int .i64 (C:Int))/\W.cell? ⟨w.heap.size,3,none⟩=some (.int .i64 5))/\W.cell? (X.add i)=some (.int .i64 E)):=λW k=>⟨a3.out W k,Z.out W k⟩;have c3:IntKind.i64.wrap (x:Int)=(x:Int):=aE _ oO oO;have c4:IntKind.i64.wrap (y:Int)=(y:Int):=aE _ oO oO;have c5:IntKind.i64.wrap ((C:Int)-5)=(x:Int):=by rw[aE _ oO oO];omega
           have c6:IntKind.i64.wrap ((C:Int)+E)=(y:Int):=by rw[aE _ oO oO];omega
           obtain⟨c7,c8,e5⟩:=cd a.out.O;subst e5;generalize cR C true++dZ C true++gm C true++(ld C true).take j=Y at*;have b3:Hid (af b wr.drew):=ai a.out.B;go_wp2;refine yO (λW=>af b W) [1,2,3,4,5,6,7,8,9,10,11,12,13,14,15,0,16,17,0,18] b3.out ?_
           repeat refine zO av.out ?_
           obtain⟨F,Q⟩:∃F,F=wr.drew.alloc (.cells #[.int .i64 (x:Int),.int .i64 (y:Int)] 47):=⟨_,rfl⟩;have S:Hid (Below wr.heap.size wr F):=by show Below _ _ _;rw[Q];exact ah (ai (Below.refl _ _)) _
           obtain⟨lb,ab⟩:∃lb,lb=wr.heap.size:=⟨_,rfl⟩;have b4:Hid (∀j u,(([(x,y)]:List Pt).flatMap eS)[j]?=some u->F.cell? ((⟨lb,0,none⟩:Addr).add j)=some u):=by show∀_ _,_;rw[Q,ab];exact gh wr.drew [(x,y)] _
           refine' zQ (v:= .slice (some ⟨lb,0,none⟩) 1 1) (w':=F) rfl (by rw[Q,ab];go_simp) (aa a.out.B S.out) ?_;clear Q ab;refine' fY (ys:=[(x,y)]) (ao a.out.O S.out) (Nat.le_trans a.out.B.size S.out.size) rfl _ _ rfl rfl rfl rfl b4.out (by have:=G.out;omega) ?_;intro be bf bi m hg;have r:Hid (dj b bi (.slice be (Y.length+1) bf) (Y++[(x,y)])):=a.out.grow S.out m hg;clear m hg;refine⟨r.out.B,?_⟩;simp only[yQ,yU,yX,yY]
           repeat refine zO av.out ?_
           refine ag ?_;go_wp2;first|exact⟨⟨j+1,by omega,by go_num,by show dj _ _ _ _;rw[M.out];exact r.out⟩,by simp[intOf];omega⟩|exact⟨⟨_,_,_,_,_,_,_,_,_,_,_,_,_,_,_,_,_,_,_,_,_,_,_,⟨j+1,by omega,by go_num,by show dj _ _ _ _;rw[M.out];exact r.out⟩,rfl⟩,by show 7-(intOf (.int .i64 ((j:Int)+1))).toNat<7-(intOf (.int .i64 (j:Int))).toNat;simp[intOf];omega⟩
          ·obtain rfl:j=7:=oO;have a7:∀g W,Hid (dj b W g (cR C true++dZ C true++gm C true++(ld C true).take 7))->Hid (dj b W g (fS C true)):=λg W h=>by show dj _ _ _ _;have l:=h.out;rw[List.take_of_length_le (by simp[ld];decide)]at l;rw[tE];exact l
           have a7:=a7 _ _ a;clear a;go_wp2;go_ret;exact⟨_,rfl,(fN.bK a7.out.O).mono (aa cb.out bs.out).size,aa (aa cb.out bs.out) a7.out.B⟩
theorem wU (s C:Nat) (w:World) (a1:7<=C) (d1:C<=100000000):Calls Tryz.prog 43 #[fQ s false C 7] w λe w'=>∃v,e= .returned v/\fN w.heap.size w' v (fS C false)/\Below w.heap.size w w':=by
 obtain⟨ci,ck,c5,c6,c7⟩:=info_parts rM;obtain⟨co,V,c8,c9,di⟩:=info_parts bZ;obtain⟨P,am⟩:∃P,P=w.alloc (.cells #[.int .i64 (s:Int),.bool false,.int .i64 (C:Int),.int .i64 7] 71):=⟨_,rfl⟩;have b7:Hid (Below w.heap.size w P):=by show Below _ _ _;rw[am];exact ax _ _
 have bo:Hid (ae P w.heap.size #[.int .i64 (s:Int),.bool false,.int .i64 (C:Int),.int .i64 7] 71):=by show ae _ _ _ _;rw[am];exact ae.new _ _ _ _ oS
 have a8:Hid (∀W,af P W->W.cell? ⟨w.heap.size,1,none⟩=some (.bool false)/\W.cell? ⟨w.heap.size,2,none⟩=some (.int .i64 (C:Int))/\W.cell? ⟨w.heap.size,3,none⟩=some (.int .i64 7)):=λW k=>⟨(bo.out.below k).cell 1 _ rfl,(bo.out.below k).cell 2 _ rfl,(bo.out.below k).cell 3 _ rfl⟩;have b8:Hid (OG vI 3 P P (.slice none 0 0) (iI false 0)):=OG.start _ _;obtain⟨ac,ad,al⟩:=a8.out _ (Below.refl _ _);rw[am]at ac ad al;go_enter Tryz.func43,Tryz.ntmps43;go_wp2;rw[<-am];clear ac ad al am;go_loopw [3,4] (λg m wr=>∃t:Nat,t<=11/\m= .int .i64 (-5+(t:Int))/\Hid (OG vI 3 P wr g (iI false t))) (λ_ m _=>14-(intOf m+7).toNat)
 case atStart=>exact⟨0,by omega,rfl,b8.out⟩
 case round=>
  clear b8;obtain⟨t,cp,rfl,a⟩:=hrel;obtain⟨ac,ad,al⟩:=a8.out _ a.out.B;have a9:=Lib.hid (An false t);by_cases o:t<11
  ·have d2:(-5:Int)+(t:Int)<=5:=oO;have O:Hid ((iI false t).length<=100):=by show _<=_;have:=wT false t;omega
   by_cases N:t=5
   ·have bb:Hid (iI false (t+1)=iI false t):=by show _=_;rw[a9.out,N];decide
    have z:((-5:Int)+(t:Int)==0)=true:=by rw[beq_iff_eq];omega
    have cq:((-5:Int)+(t:Int)!=0)=false:=by rw[bne,z];rfl
    have cr:(-5:Int)+(t:Int)=0:=oO;go_wp2;exact⟨⟨t+1,by omega,by go_num,by show OG _ _ _ _ _ _;rw[bb.out];exact a.out⟩,by simp[intOf];omega⟩
   ·have bb:Hid (iI false (t+1)=iI false t++[-5+(t:Int)]):=by show _=_;rw[a9.out,if_pos (by simp[cK];omega)];rfl
    have z:((-5:Int)+(t:Int)==0)=false:=by rw[beq_eq_false_iff_ne];omega
    have cq:((-5:Int)+(t:Int)!=0)=true:=by rw[bne,z];rfl
    have cr:¬((-5:Int)+(t:Int)=0):=oO;go_wp2_with(at_builtin;refine bg (f:=vI) (d:=0) IS rfl _ _ _ rfl P.heap.size 3 co _ 8 Tryz.underlying64 V c8 c9 di rfl _ (iI false t).length (iI false t) rfl (ao a.out.O (ax _ _)) (some ⟨wr.heap.size,0,none⟩) 1 1 [-5+(t:Int)] rfl rfl (RG.one _ _ _ _ rfl) (by have:=O.out;unfold maxLen;omega) (by have:=O.out;omega) (by have:=a.out.B.size;simp;omega) ?_;intro dx dy r hg;have B:=Lib.hid (a.out.grow (ax _ _) r hg);clear r hg)
    exact⟨⟨t+1,by omega,by go_num,by show OG _ _ _ _ _ _;rw[bb.out];exact B.out⟩,by simp[intOf];omega⟩
  ·obtain rfl:t=11:=oO;have d3:¬((-5:Int)+((11:Nat):Int)<=5):=oO;have bq:=SG.bK (d:=0) a.out.O;rw[show iI false 11=bn false from CW false]at bq;have b9:=Lib.hid bq;clear bq;have bs:=Lib.hid a.out.B;clear a a9 cp o;obtain⟨b,rfl⟩:∃b:World,b=wr:=⟨_,rfl⟩;obtain⟨A,n,d0,rfl,bd⟩:=b9.out.parts;have ca:=Lib.hid bd;have hn:n=10:=bd.hn;subst hn;clear bd b9;obtain⟨X,rfl,ch,cb⟩:=ca.out.rd oD;have a2:Hid (∀W,af b W->∀j:Nat,j<10->W.cell? (X.add j)=some (.int .i64 ((bn false).getD j 0))):=λW k j V=>(k.cell (by rw[aI];exact ch)).trans (cb j (by show j<(bn false).length;exact V));have a3:Hid (∀W,af b W->W.cell? ⟨w.heap.size,1,none⟩=some (.bool false)/\W.cell? ⟨w.heap.size,2,none⟩=some (.int .i64 (C:Int))/\W.cell? ⟨w.heap.size,3,none⟩=some (.int .i64 7)):=λW k=>a8.out W (aa bs.out k);clear ch cb ca;go_wp2_with(at_make;refine wpList_make_own _ rfl _ _ _ rfl b.heap.size 47 ci _ 2 Tryz.underlying40 ck c5 c6 .i64 .i64 _ 40 rfl rfl (by first|rfl|omega) (by rw[c7];omega) oM (Nat.le_refl _) ?_;intro b6 r hg;have ce:Hid (Below b.heap.size b b6):=(Below.refl _ _).grown hg (Nat.le_refl _) (λq hq=>by cases hq);have cg:Hid (dj b b6 (.slice (some ⟨b.heap.size,0,none⟩) 0 40) ([]++(cR C false).take 0)):=⟨ce.out,r⟩;clear r hg ac ad al)
   clear ce;go_loopw [7,43] (λg m wr=>∃j:Nat,j<=10/\m= .int .i64 (j:Int)/\Hid (dj b wr g ([]++(cR C false).take j))) (λ_ m _=>10-(intOf m).toNat)
   case atStart=>exact⟨0,by omega,rfl,cg.out⟩
   case round=>
    clear cg;obtain⟨j,V,rfl,a⟩:=hrel;by_cases o:j<10
    ·obtain⟨x,y,K,N,T,l,U,bt,bv⟩:=mQ C false a1 0 j oO o;have L:Hid ([]++(cR C false).take (j+1)=([]++(cR C false).take j)++[(x,y)]):=by show _=_;rw[jg _ (0,0) (by rw[(dQ C false).1];exact o),<-List.append_assoc];exact congrArg (λp=>_++[p]) K
     have O:Hid (([]++(cR C false).take j).length<=100):=by
      show _<=_;have:=dQ C false;have hn:(bn false).length=10:=rfl;simp only[List.length_append,List.length_take,List.length_nil,this.1,this.2.1,this.2.2.1,this.2.2.2,hn];omega
     have D:=N rfl;have G:=D.1;have H:=D.2;have M:(bn false).getD j 0=(bn false).getD (j) 0:=by rfl
     rw[<-M]at G;have J:=jE (c:=false) (j:=j) o;have Z:Hid (∀W,af b W->W.cell? (X.add j)=some (.int .i64 ((bn false).getD j 0))):=λW k=>a2.out W k _ o;simp only[cK,Bool.false_eq_true,if_false,if_true]at G H J;generalize(bn false).getD j 0=E at*;have bx:-7<=E:=oO;have bz:E<=7:=oO;have b1:(C:Int)-7=(y:Int):=oO;clear H;clear N T l U D K M J;have cs:=Z.out _ a.out.B;obtain⟨ac,ad,al⟩:=a3.out _ a.out.B;generalize[]++(cR C false).take j=Y at*;go_wp2_with(at_builtin;refine iS (ao a.out.O (ax _ _)) (Nat.le_trans a.out.B.size oS) rfl _ _ rfl rfl ⟨wr.heap.size,0,none⟩ 1 1 [(x,y)] rfl rfl (gh wr [(x,y)] _) (by have:=O.out;omega) ?_;intro v6 F r hg b2;have B:=Lib.hid (a.out.grow (ax _ _) r hg);clear r hg b2)
     first|exact⟨⟨j+1,by omega,by go_num,by show dj _ _ _ _;rw[L.out];exact B.out⟩,by simp[intOf];omega⟩|exact⟨⟨_,_,_,_,_,_,_,_,_,_,_,_,_,_,_,_,_,_,_,_,_,_,_,⟨j+1,by omega,by go_num,by show dj _ _ _ _;rw[L.out];exact B.out⟩,rfl⟩,by show 10-(intOf (.int .i64 ((j:Int)+1))).toNat<10-(intOf (.int .i64 (j:Int))).toNat;simp[intOf];omega⟩
    ·obtain rfl:j=10:=oO;have a4:∀g W,Hid (dj b W g ([]++(cR C false).take 10))->Hid (dj b W g (cR C false++(dZ C false).take 0)):=λg W h=>by show dj _ _ _ _;have l:=h.out;rw[List.take_of_length_le (by simp[cR];decide)]at l;simpa using l
     have a4:=a4 _ _ a;clear a;go_wp2;go_loopw [7,61] (λg m wr=>∃j:Nat,j<=10/\m= .int .i64 (j:Int)/\Hid (dj b wr g (cR C false++(dZ C false).take j))) (λ_ m _=>10-(intOf m).toNat)
     case atStart=>exact⟨0,by omega,rfl,a4.out⟩
     case round=>
      clear a4;obtain⟨j,V,rfl,a⟩:=hrel;by_cases o:j<10
      ·obtain⟨x,y,K,N,T,l,U,bt,bv⟩:=mQ C false a1 1 j oO o;have L:Hid (cR C false++(dZ C false).take (j+1)=(cR C false++(dZ C false).take j)++[(x,y)]):=by show _=_;rw[jg _ (0,0) (by rw[(dQ C false).2.1];exact o),<-List.append_assoc];exact congrArg (λp=>_++[p]) K
       have O:Hid ((cR C false++(dZ C false).take j).length<=100):=by
        show _<=_;have:=dQ C false;have hn:(bn false).length=10:=rfl;simp only[List.length_append,List.length_take,List.length_nil,this.1,this.2.1,this.2.2.1,this.2.2.2,hn];omega
       have D:=T rfl;have G:=D.1;have H:=D.2;have M:(bn false).getD j 0=(bn false).getD (j) 0:=by rfl
       rw[<-M]at H;have J:=jE (c:=false) (j:=j) o;have Z:Hid (∀W,af b W->W.cell? (X.add j)=some (.int .i64 ((bn false).getD j 0))):=λW k=>a2.out W k _ o;simp only[cK,Bool.false_eq_true,if_false,if_true]at G H J;generalize(bn false).getD j 0=E at*;have bx:-7<=E:=oO;have bz:E<=7:=oO;have b1:(C:Int)+7=(x:Int):=oO;clear G;clear N T l U D K M J;have cs:=Z.out _ a.out.B;obtain⟨ac,ad,al⟩:=a3.out _ a.out.B;generalize cR C false++(dZ C false).take j=Y at*;go_wp2_with(at_builtin;refine iS (ao a.out.O (ax _ _)) (Nat.le_trans a.out.B.size oS) rfl _ _ rfl rfl ⟨wr.heap.size,0,none⟩ 1 1 [(x,y)] rfl rfl (gh wr [(x,y)] _) (by have:=O.out;omega) ?_;intro v6 F r hg b2;have B:=Lib.hid (a.out.grow (ax _ _) r hg);clear r hg b2)
       first|exact⟨⟨j+1,by omega,by go_num,by show dj _ _ _ _;rw[L.out];exact B.out⟩,by simp[intOf];omega⟩|exact⟨⟨_,_,_,_,_,_,_,_,_,_,_,_,_,_,_,_,_,_,⟨j+1,by omega,by go_num,by show dj _ _ _ _;rw[L.out];exact B.out⟩,rfl⟩,by show 10-(intOf (.int .i64 ((j:Int)+1))).toNat<10-(intOf (.int .i64 (j:Int))).toNat;simp[intOf];omega⟩
      ·obtain rfl:j=10:=oO;have a5:∀g W,Hid (dj b W g (cR C false++(dZ C false).take 10))->Hid (dj b W g (cR C false++dZ C false++(gm C false).take 0)):=λg W h=>by show dj _ _ _ _;have l:=h.out;rw[List.take_of_length_le (by simp[dZ];decide)]at l;simpa using l
       have a5:=a5 _ _ a;clear a;go_wp2;go_loopw [7,78] (λg m wr=>∃j:Nat,j<=10/\m= .int .i64 (j:Int)/\Hid (dj b wr g (cR C false++dZ C false++(gm C false).take j))) (λ_ m _=>10-(intOf m).toNat)
       case atStart=>exact⟨0,by omega,rfl,a5.out⟩
       case round=>
        clear a5;obtain⟨j,V,rfl,a⟩:=hrel;by_cases o:j<10
        ·obtain⟨x,y,K,N,T,l,U,bt,bv⟩:=mQ C false a1 2 j oO o;have L:Hid (cR C false++dZ C false++(gm C false).take (j+1)=(cR C false++dZ C false++(gm C false).take j)++[(x,y)]):=by show _=_;rw[jg _ (0,0) (by rw[(dQ C false).2.2.1];exact o),<-List.append_assoc];exact congrArg (λp=>_++[p]) K
         have O:Hid ((cR C false++dZ C false++(gm C false).take j).length<=100):=by
          show _<=_;have:=dQ C false;have hn:(bn false).length=10:=rfl;simp only[List.length_append,List.length_take,List.length_nil,this.1,this.2.1,this.2.2.1,this.2.2.2,hn];omega
         have D:=l rfl;have G:=D.1;have H:=D.2;obtain⟨i,ap⟩:∃i,i=10-1-j:=⟨_,rfl⟩;have b5:(9:Int)-(j:Int)=(i:Int):=oO;have a0:i<10:=oO;have dv:(i:Int)<10:=oO;have dl:IntKind.i64.wrap 9=9:=aE _ oO oO;have ds:IntKind.i64.wrap (9-(j:Int))=(i:Int):=by rw[aE _ oO oO];omega
         have M:(bn false).getD i 0=(bn false).getD ((bn false).length-1-j) 0:=by rw[ap];rfl
         rw[<-M]at G;have J:=jE (c:=false) (j:=i) a0;have Z:Hid (∀W,af b W->W.cell? (X.add i)=some (.int .i64 ((bn false).getD i 0))):=λW k=>a2.out W k _ a0;simp only[cK,Bool.false_eq_true,if_false,if_true]at G H J;generalize(bn false).getD i 0=E at*;have bx:-7<=E:=oO;have bz:E<=7:=oO;have b1:(C:Int)+7=(y:Int):=oO;clear H;clear N T l U D K M J ap b5;have av:Hid (∀W,af b W->(W.cell? ⟨w.heap.size,1,none⟩=some (.bool false)/\W.cell? ⟨w.heap.size,2,none⟩=some (.int .i64 (C:Int))/\W.cell? ⟨w.heap.size,3,none⟩=some (.int .i64 7))/\W.cell? (X.add i)=some (.int .i64 E)):=λW k=>⟨a3.out W k,Z.out W k⟩;have cv:IntKind.i64.wrap (x:Int)=(x:Int):=aE _ oO oO;have cx:IntKind.i64.wrap (y:Int)=(y:Int):=aE _ oO oO;have cy:IntKind.i64.wrap ((C:Int)+E)=(x:Int):=by rw[aE _ oO oO];omega
         have c2:IntKind.i64.wrap ((C:Int)+7)=(y:Int):=by rw[aE _ oO oO];omega
         obtain⟨c3,c4,e5⟩:=cd a.out.O;subst e5;generalize cR C false++dZ C false++(gm C false).take j=Y at*;have b3:Hid (af b wr.drew):=ai a.out.B;go_wp2;refine yO (λW=>af b W) [1,2,3,4,5,6,7,8,9,10,11,12,13,14,15,0,16,17,0,18] b3.out ?_
         repeat refine zO av.out ?_
         obtain⟨F,Q⟩:∃F,F=wr.drew.alloc (.cells #[.int .i64 (x:Int),.int .i64 (y:Int)] 47):=⟨_,rfl⟩;have S:Hid (Below wr.heap.size wr F):=by show Below _ _ _;rw[Q];exact ah (ai (Below.refl _ _)) _
         obtain⟨lb,ab⟩:∃lb,lb=wr.heap.size:=⟨_,rfl⟩;have b4:Hid (∀j u,(([(x,y)]:List Pt).flatMap eS)[j]?=some u->F.cell? ((⟨lb,0,none⟩:Addr).add j)=some u):=by show∀_ _,_;rw[Q,ab];exact gh wr.drew [(x,y)] _
         refine' zQ (v:= .slice (some ⟨lb,0,none⟩) 1 1) (w':=F) rfl (by rw[Q,ab];go_simp) (aa a.out.B S.out) ?_;clear Q ab;refine' fY (ys:=[(x,y)]) (ao a.out.O S.out) (Nat.le_trans a.out.B.size S.out.size) rfl _ _ rfl rfl rfl rfl b4.out (by have:=O.out;omega) ?_;intro be bf bi r hg;have B:Hid (dj b bi (.slice be (Y.length+1) bf) (Y++[(x,y)])):=a.out.grow S.out r hg;clear r hg;refine⟨B.out.B,?_⟩;simp only[yQ,yU,yX,yY]
         repeat refine zO av.out ?_
         refine ag ?_;go_wp2;first|exact⟨⟨j+1,by omega,by go_num,by show dj _ _ _ _;rw[L.out];exact B.out⟩,by simp[intOf];omega⟩|exact⟨⟨_,_,_,_,_,_,_,_,_,_,_,_,_,_,_,_,_,_,_,_,_,_,_,⟨j+1,by omega,by go_num,by show dj _ _ _ _;rw[L.out];exact B.out⟩,rfl⟩,by show 10-(intOf (.int .i64 ((j:Int)+1))).toNat<10-(intOf (.int .i64 (j:Int))).toNat;simp[intOf];omega⟩
        ·obtain rfl:j=10:=oO;have a6:∀g W,Hid (dj b W g (cR C false++dZ C false++(gm C false).take 10))->Hid (dj b W g (cR C false++dZ C false++gm C false++(ld C false).take 0)):=λg W h=>by show dj _ _ _ _;have l:=h.out;rw[List.take_of_length_le (by simp[gm];decide)]at l;simpa using l
         have a6:=a6 _ _ a;clear a;go_wp2;go_loopw [7,100] (λg m wr=>∃j:Nat,j<=10/\m= .int .i64 (j:Int)/\Hid (dj b wr g (cR C false++dZ C false++gm C false++(ld C false).take j))) (λ_ m _=>10-(intOf m).toNat)
         case atStart=>exact⟨0,by omega,rfl,a6.out⟩
         case round=>
          clear a6;obtain⟨j,V,rfl,a⟩:=hrel;by_cases o:j<10
          ·obtain⟨x,y,K,N,T,l,U,bt,bv⟩:=mQ C false a1 3 j oO o;have L:Hid (cR C false++dZ C false++gm C false++(ld C false).take (j+1)=(cR C false++dZ C false++gm C false++(ld C false).take j)++[(x,y)]):=by show _=_;rw[jg _ (0,0) (by rw[(dQ C false).2.2.2];exact o),<-List.append_assoc];exact congrArg (λp=>_++[p]) K
           have O:Hid ((cR C false++dZ C false++gm C false++(ld C false).take j).length<=100):=by
            show _<=_;have:=dQ C false;have hn:(bn false).length=10:=rfl;simp only[List.length_append,List.length_take,List.length_nil,this.1,this.2.1,this.2.2.1,this.2.2.2,hn];omega
           have D:=U rfl;have G:=D.1;have H:=D.2;obtain⟨i,ap⟩:∃i,i=10-1-j:=⟨_,rfl⟩;have b5:(9:Int)-(j:Int)=(i:Int):=oO;have a0:i<10:=oO;have dv:(i:Int)<10:=oO;have dl:IntKind.i64.wrap 9=9:=aE _ oO oO;have ds:IntKind.i64.wrap (9-(j:Int))=(i:Int):=by rw[aE _ oO oO];omega
           have M:(bn false).getD i 0=(bn false).getD ((bn false).length-1-j) 0:=by rw[ap];rfl
           rw[<-M]at H;have J:=jE (c:=false) (j:=i) a0;have Z:Hid (∀W,af b W->W.cell? (X.add i)=some (.int .i64 ((bn false).getD i 0))):=λW k=>a2.out W k _ a0;simp only[cK,Bool.false_eq_true,if_false,if_true]at G H J;generalize(bn false).getD i 0=E at*;have bx:-7<=E:=oO;have bz:E<=7:=oO;have b1:(C:Int)-7=(x:Int):=oO;clear G;clear N T l U D K M J ap b5;have av:Hid (∀W,af b W->(W.cell? ⟨w.heap.size,1,none⟩=some (.bool false)/\W.cell? ⟨w.heap.size,2,none⟩=some (.int .i64 (C:Int))/\W.cell? ⟨w.heap.size,3,none⟩=some (.int .i64 7))/\W.cell? (X.add i)=some (.int .i64 E)):=λW k=>⟨a3.out W k,Z.out W k⟩;have cv:IntKind.i64.wrap (x:Int)=(x:Int):=aE _ oO oO;have cx:IntKind.i64.wrap (y:Int)=(y:Int):=aE _ oO oO;have cy:IntKind.i64.wrap ((C:Int)-7)=(x:Int):=by rw[aE _ oO oO];omega
           have c2:IntKind.i64.wrap ((C:Int)+E)=(y:Int):=by rw[aE _ oO oO];omega
           obtain⟨c3,c4,e5⟩:=cd a.out.O;subst e5;generalize cR C false++dZ C false++gm C false++(ld C false).take j=Y at*;have b3:Hid (af b wr.drew):=ai a.out.B;go_wp2;refine yO (λW=>af b W) [1,2,3,4,5,6,7,8,9,10,11,12,13,14,15,0,16,17,0,18] b3.out ?_
           repeat refine zO av.out ?_
           obtain⟨F,Q⟩:∃F,F=wr.drew.alloc (.cells #[.int .i64 (x:Int),.int .i64 (y:Int)] 47):=⟨_,rfl⟩;have S:Hid (Below wr.heap.size wr F):=by show Below _ _ _;rw[Q];exact ah (ai (Below.refl _ _)) _
           obtain⟨lb,ab⟩:∃lb,lb=wr.heap.size:=⟨_,rfl⟩;have b4:Hid (∀j u,(([(x,y)]:List Pt).flatMap eS)[j]?=some u->F.cell? ((⟨lb,0,none⟩:Addr).add j)=some u):=by show∀_ _,_;rw[Q,ab];exact gh wr.drew [(x,y)] _
           refine' zQ (v:= .slice (some ⟨lb,0,none⟩) 1 1) (w':=F) rfl (by rw[Q,ab];go_simp) (aa a.out.B S.out) ?_;clear Q ab;refine' fY (ys:=[(x,y)]) (ao a.out.O S.out) (Nat.le_trans a.out.B.size S.out.size) rfl _ _ rfl rfl rfl rfl b4.out (by have:=O.out;omega) ?_;intro be bf bi r hg;have B:Hid (dj b bi (.slice be (Y.length+1) bf) (Y++[(x,y)])):=a.out.grow S.out r hg;clear r hg;refine⟨B.out.B,?_⟩;simp only[yQ,yU,yX,yY]
           repeat refine zO av.out ?_
           refine ag ?_;go_wp2;first|exact⟨⟨j+1,by omega,by go_num,by show dj _ _ _ _;rw[L.out];exact B.out⟩,by simp[intOf];omega⟩|exact⟨⟨_,_,_,_,_,_,_,_,_,_,_,_,_,_,_,_,_,_,_,_,_,_,_,⟨j+1,by omega,by go_num,by show dj _ _ _ _;rw[L.out];exact B.out⟩,rfl⟩,by show 10-(intOf (.int .i64 ((j:Int)+1))).toNat<10-(intOf (.int .i64 (j:Int))).toNat;simp[intOf];omega⟩
          ·obtain rfl:j=10:=oO;have a7:∀g W,Hid (dj b W g (cR C false++dZ C false++gm C false++(ld C false).take 10))->Hid (dj b W g (fS C false)):=λg W h=>by show dj _ _ _ _;have l:=h.out;rw[List.take_of_length_le (by simp[ld];decide)]at l;rw[tE];exact l
           have a7:=a7 _ _ a;clear a;go_wp2;go_ret;exact⟨_,rfl,(fN.bK a7.out.O).mono (aa b7.out bs.out).size,aa (aa b7.out bs.out) a7.out.B⟩
theorem ry (s C:Nat) (c:Bool) (w:World) (a:cK c<=C) (b:C<=100000000):Calls Tryz.prog 43 #[fQ s c C (cK c)] w λe w'=>∃v,e= .returned v/\fN w.heap.size w' v (fS C c)/\Below w.heap.size w w':=by
 cases c with
 |true=>exact yS s C w a b
 |false=>exact wU s C w a b
def tc (L:Int) (c:Bool):Int:=if fM L c=true then 0 else 14
def qA (L:Int) (c:Bool):List Pt:=if fM L c=true then eX L.toNat c else[]
def qk (L:Int) (c:Bool):List Pt:=if fM L c=true then fS (dd L.toNat c) c else[]
def Mf (w:World) (L:Int) (c:Bool) (e:Ending) (w':World):Prop:=∃v u,e= .returned (.tuple #[v,u,.int .i64 (tc L c)])/\SP w' v (qA L c)/\SP w' u (qk L c)/\Below w.heap.size w w'
theorem IF (L:Int) (c:Bool) (w:World):Calls Tryz.prog 15 #[.int .i64 L,.bool c] w (Mf w L c):=by
 have g:=eV w L c;have j:Hid (∀W,Calls Tryz.prog 29 #[cn L c] W λe w'=>e= .returned (.bool (fM L c))/\Below W.heap.size W w'):=λW=>fO L c W;cases a:fM L c with
 |false=>
  have b:Hid (tc L c=14/\qA L c=[]/\qk L c=[]):=by show _/\_/\_;unfold tc qA qk;rw[a];exact⟨rfl,rfl,rfl⟩
  rw[a]at j;clear a;go_enter Tryz.func15,Tryz.ntmps15;go_wp2_with(go_at_call 29;refine(j.out _).mono ?_;rintro e z ⟨rfl,f⟩;have d:=Lib.hid f;clear f;obtain⟨q,r⟩:=g.out _ d.out)
  go_ret3
  exact⟨_,_,by rw[b.out.1];rfl,by rw[b.out.2.1];exact SP.dR _,by rw[b.out.2.2];exact SP.dR _,cQ d.out⟩
 |true=>
  obtain⟨k,rfl,A,i,B⟩:=nH a;have b:Hid (tc k c=0/\qA k c=eX k c/\qk k c=fS (dd k c) c):=by show _/\_/\_;unfold tc qA qk;rw[a];exact⟨rfl,rfl,rfl⟩
  have M:=Al (c:=c) A i;have N:=gM (c:=c) i;have D:Hid (∀W,Calls Tryz.prog 46 #[cn k c] W λe w'=>∃v,e= .returned v/\fN W.heap.size w' v (eX k c)/\Below W.heap.size W w'):=λW=>AR k c W i;have O:Hid (∀W,Calls Tryz.prog 36 #[cn k c] W λe w'=>e= .returned (.int .i64 ((aD k c:Nat):Int))/\Below W.heap.size W w'):=λW=>qH k c W i;have E:Hid (∀W,Calls Tryz.prog 39 #[.int .i64 ((aD k c:Nat):Int),.bool c] W λe w'=>e= .returned (fQ (aD k c) c (dd k c) (cK c))/\Below W.heap.size W w'):=λW=>tG (aD k c) c W oO oO;have F:Hid (∀W,Calls Tryz.prog 43 #[fQ (aD k c) c (dd k c) (cK c)] W λe w'=>∃v,e= .returned v/\fN W.heap.size w' v (fS (dd k c) c)/\Below W.heap.size W w'):=λW=>ry (aD k c) (dd k c) c W oO oO;rw[a]at j;generalize eX k c=dl at*;generalize fS (dd k c) c=X at*;generalize aD k c=S at*;generalize dd k c=C at*;generalize cK c=Y at*;clear a B M N;go_enter Tryz.func15,Tryz.ntmps15;go_wp2_with(go_at_call 29;refine(j.out _).mono ?_;rintro e z ⟨rfl,f⟩;have d:=Lib.hid f;clear f;obtain⟨q,r⟩:=g.out _ d.out)
  clear q r;refine yO (af (w.alloc (bL k c))) [1,3,5,0,2,4,6,7,0,8,9,10] (ai d.out) ?_
  repeat refine zO g.out ?_
  refine zZ ?_;refine(D.out _).mono ?_;rintro e G ⟨Z,rfl,l,s⟩;obtain⟨⟨ab,ac,rfl,-⟩,-⟩:=id l;have P:=Lib.hid l.1;have t:Hid (af (w.alloc (bL k c)) G):=aa (ai d.out) s;clear l s;refine⟨_,rfl,t.out,jO ?_⟩;refine zZ ?_;refine(O.out _).mono ?_;rintro e H ⟨rfl,m⟩;have Q:=Lib.hid (P.out.below m);have u:Hid (af (w.alloc (bL k c)) H):=aa t.out m;clear m;refine⟨_,rfl,u.out,jO ?_⟩;refine zZ ?_;refine(E.out _).mono ?_;rintro e J ⟨rfl,n⟩;have T:=Lib.hid (Q.out.below n);have x:Hid (af (w.alloc (bL k c)) J):=aa u.out n;clear n;refine⟨_,rfl,x.out,jO ?_⟩;refine zZ ?_;refine(F.out _).mono ?_;rintro e K ⟨ad,rfl,o,p⟩;obtain⟨⟨al,am,rfl,-⟩,-⟩:=id o;have U:=Lib.hid o.1;have V:=Lib.hid (T.out.below p);have y:Hid (af (w.alloc (bL k c)) K):=aa x.out p;clear o p;refine⟨_,rfl,y.out,jO ?_⟩
  repeat refine zO g.out ?_
  refine ag ?_;go_wp2;go_ret3
  exact⟨_,_,by rw[b.out.1];rfl,by rw[b.out.2.1];exact V.out,by rw[b.out.2.2];exact U.out,cQ y.out⟩
def xx (C:Nat) (p:Pt):Bool:=(pY p.1 C%16==0&&pY p.2 C%2==0)||(pY p.2 C%16==0&&pY p.1 C%2==0)
def tO (C:Nat) (c:Bool) (p:Pt):Bool:=if rC C p<cK c then rC C p%2==0 else !c&&xx C p
def dH (n C:Nat) (c:Bool):List Bool:=(List.range (n* n)).map λi=>tO C c (i%n,i/n)
def kj:List Bool:=[true,true,true,true,true,true]
def pE:List Bool:=[false,false,false,false,false,false]
def pk (n C:Nat) (c:Bool):List Bool:=wrL n (wrL n (dH n C c) (cO C (cK c)) kj) (cJ C (cK c)) pE
def LX (L:Nat) (c:Bool) (d content msg:List Bool):List Bool:=
 wrL (aD L c) (wrL (aD L c) d ((eX L c).drop ((eX L c).length-content.length)) content) (fS (dd L c) c) msg
def IC (L:Nat) (c:Bool) (content msg:List Bool):List Bool:=LX L c (pk (aD L c) (dd L c) c) content msg
theorem nj (n C:Nat) (c:Bool):(dH n C c).length=n* n:=by unfold dH;simp
theorem o7 (n C:Nat) (c:Bool):(pk n C c).length=n* n:=by unfold pk;rw[fT,fT,nj]
theorem tM (L:Nat) (c:Bool) (content msg:List Bool):(IC L c content msg).length=aD L c* aD L c:=by unfold IC LX;rw[fT,fT,o7]
theorem Jn {C s:Nat} {p:Pt} (hs:5<=s) (a:s<=C) (h:p∈cO C s):rC C p=s/\p.1<2* C+1/\p.2<2* C+1/\∀t:Nat,C-s+2<=t->t+2<=C+s->p≠(t,C-s)/\p≠(C+s,t)/\p≠(t,C+s)/\p≠(C-s,t):=by
 simp only[cO,List.mem_cons,List.not_mem_nil,or_false]at h;unfold rC pY;rcases h with rfl|rfl|rfl|rfl|rfl|rfl
 all_goals simp only[Prod.mk.injEq,ne_eq]
 all_goals refine⟨by omega,by omega,by omega,λt h1 b=>⟨?_,?_,?_,?_⟩⟩<;>omega
theorem FP {C s:Nat} {p:Pt} (hs:5<=s) (a:s<=C) (h:p∈cJ C s):rC C p=s/\p.1<2* C+1/\p.2<2* C+1/\∀t:Nat,C-s+2<=t->t+2<=C+s->p≠(t,C-s)/\p≠(C+s,t)/\p≠(t,C+s)/\p≠(C-s,t):=by
 simp only[cJ,List.mem_cons,List.not_mem_nil,or_false]at h;unfold rC pY;rcases h with rfl|rfl|rfl|rfl|rfl|rfl
 all_goals simp only[Prod.mk.injEq,ne_eq]
 all_goals refine⟨by omega,by omega,by omega,λt h1 b=>⟨?_,?_,?_,?_⟩⟩<;>omega
section
variable {L : Nat} {c : Bool} (h1 : 1 ≤ L) (hL : L ≤ 32) {content msg : List Bool} (hc : content.length ≤ (eX L c).length)
include h1 hL
end
def Gb (a b:Int):Int:=if b>a then b else a
def JS (a b c d:Int):Int:=Gb (Gb (Gb a b) c) d
theorem IW (e:Array TypeId) (t:TypeId) (a b c d:Int) (w:World):(Builtin.max_ e t #[.int .i64 a,.int .i64 b,.int .i64 c,.int .i64 d]).run Tryz.prog w= .ok (.int .i64 (JS a b c d)) w:=by
 simp[Builtin.max_,Builtin.max2,JS,Gb]
theorem Lr (x y C:Nat):JS ((x:Int)-C) ((C:Int)-x) ((y:Int)-C) ((C:Int)-y)=((rC C (x,y):Nat):Int):=by
 unfold rC pY JS Gb;simp only
 (repeat' split)<;>omega
theorem Af (s C m x y:Nat) (c:Bool) (w:World) (d:C<=1000000) (f:x<=1000000) (g:y<=1000000):Calls Tryz.prog 86 #[fQ s c C m,.int .i64 x,.int .i64 y] w λe w'=>e= .returned (.int .i64 ((rC C (x,y):Nat):Int))/\Below w.heap.size w w':=by
 have a:=Lib.hid (Lr x y C);have b:Hid (Below w.heap.size w (w.alloc (.cells #[.int .i64 (s:Int),.bool c,.int .i64 (C:Int),.int .i64 (m:Int)] 71))):=ax _ _;have i:=IW;go_enter Tryz.func86,Tryz.ntmps86;go_wp2;go_ret;exact⟨bG a.out,b.out⟩
theorem CJ (d:Nat) (w:World) (b:d<=1000000):Calls Tryz.prog 87 #[.int .i64 d] w λe w'=>e= .returned (.bool (d%2==0))/\w'=w:=by
 have a:Hid (((d:Int)%2==0)=(d%2==0)):=by
  show _=_;rw[Bool.eq_iff_iff];simp;omega
 go_enter Tryz.func87,Tryz.ntmps87;go_wp2;exact bodyPost_ret (v:= .bool ((d:Int)%2==0)) (by simp[results,Tryz.results87,go_sem]) rfl ⟨by rw[a.out],rfl⟩
def J2 (a b:Int):Bool:=(a.tmod 16==0&&b.tmod 2==0)||(b.tmod 16==0&&a.tmod 2==0)
theorem tmod_zero (x C:Nat) (k:Nat) (a:k≠0):(((x:Int)-(C:Int)).tmod (k:Int)==0)=(pY x C%k==0):=by
 rw[Bool.eq_iff_iff,beq_iff_eq,beq_iff_eq,<-Int.dvd_iff_tmod_eq_zero];have h:((k:Int)∣((x:Int)-(C:Int)))↔((k:Int)∣((pY x C:Nat):Int)):=by
  unfold pY;rcases Nat.le_total x C with h|h
  ·have e:(((x-C)+(C-x):Nat):Int)=-((x:Int)-(C:Int)):=oO;rw[e,Int.dvd_neg]
  ·have e:(((x-C)+(C-x):Nat):Int)=((x:Int)-(C:Int)):=oO;rw[e]
 rw[h,Int.natCast_dvd_natCast];exact⟨λh=>Nat.mod_eq_zero_of_dvd h,λh=>Nat.dvd_of_mod_eq_zero h⟩
theorem KY (x y C:Nat):J2 ((x:Int)-C) ((y:Int)-C)=xx C (x,y):=by
 unfold J2 xx;have a:=tmod_zero x C 16 oO;have b:=tmod_zero y C 2 oO;have c:=tmod_zero y C 16 oO;have d:=tmod_zero x C 2 oO;rw[show((16:Nat):Int)=16 from rfl]at a c;rw[show((2:Nat):Int)=2 from rfl]at b d;rw[a,b,c,d]
theorem tg (s C m:Nat) (c:Bool) (d f:Int) (w:World):Calls Tryz.prog 133 #[fQ s c C m,.int .i64 d,.int .i64 f] w λe w'=>e= .returned (.bool (J2 d f))/\Below w.heap.size w w':=by
 have n:Hid (Below w.heap.size w (w.alloc (.cells #[.int .i64 (s:Int),.bool c,.int .i64 (C:Int),.int .i64 (m:Int)] 71))):=ax _ _;have j:Hid (J2 d f=((d.tmod 16==0&&f.tmod 2==0)||(f.tmod 16==0&&d.tmod 2==0))):=rfl;have g (a:Int):IntKind.i64.wrap (a.tmod 16)=a.tmod 16:=by
  have k:=Int.tmod_lt_of_pos a (show(0:Int)<16 by omega);have l:-16<a.tmod 16:=by have:=Int.lt_tmod_of_pos a (show(0:Int)<16 by omega);exact this
  exact aE _ oO oO
 have i (a:Int):IntKind.i64.wrap (a.tmod 2)=a.tmod 2:=by
  have k:=Int.tmod_lt_of_pos a (show(0:Int)<2 by omega);have l:-2<a.tmod 2:=by have:=Int.lt_tmod_of_pos a (show(0:Int)<2 by omega);exact this
  exact aE _ oO oO
 have k:=g d;have l:=g f;have u:=i d;have v:=i f;clear g i;generalize x:d.tmod 16=a at*;generalize hb:f.tmod 16=b at*;generalize hc:d.tmod 2=p at*;generalize y:f.tmod 2=q at*;cases o:(a==0)<;>cases eb:(b==0)<;>cases r:(p==0)<;>cases t:(q==0)
 all_goals
  rw[o,eb,r,t]at j;go_enter Tryz.func133,Tryz.ntmps133;go_wp2;go_ret;exact⟨aK (by rw[j.out];rfl),n.out⟩
def bu (w:World) (db:Nat) (l:List Bool):Prop:=ae w db (l.map vB).toArray 4
structure aF (db:Nat) (w w':World):Prop where
 sz:w.heap.size<=w'.heap.size
 bl:∀k,k<w.heap.size->k≠db->w'.heap[k]?=w.heap[k]?
 os:w'.os=w.os
 tape:w'.tape=w.tape
 output:w'.output=w.output
theorem aF.refl (db:Nat) (w:World):aF db w w:=⟨Nat.le_refl _,λ_ _ _=>rfl,rfl,rfl,rfl⟩
theorem aF.trans {db:Nat} {a b c:World} (h:aF db a b) (d:aF db b c):aF db a c:=⟨Nat.le_trans h.sz d.sz,λk e hn=>(d.bl k (Nat.lt_of_lt_of_le e h.sz) hn).trans (h.bl k e hn),d.os.trans h.os,d.tape.trans h.tape,d.output.trans h.output⟩
theorem aF.below {db:Nat} {w W:World} (h:Below w.heap.size w W):aF db w W:=⟨h.size,λk a _=>h.block k a,h.os,h.tape,h.output⟩
theorem aF.jn {db i:Nat} {w:World} (u:Value):aF db w (w.setCell ⟨db,i,none⟩ u):=⟨by simp,λk a hn=>Below.heap_setCell _ _ _ _ hn,rfl,rfl,rfl⟩
theorem aF.cell {db:Nat} {w W:World} (h:aF db w W) {a:Addr} (b:a.block<w.heap.size) (hn:a.block≠db):W.cell? a=w.cell? a:=by
 have e:W.heap[a.block]?=w.heap[a.block]?:=h.bl _ b hn;exact World.cell?_of_block e
theorem aF.row {db g:Nat} {w W:World} {b:Array Value} {t:TypeId} (h:aF db w W) (a:ae w g b t) (hn:g≠db):ae W g b t:=(h.bl _ (ar a) hn).trans a
theorem aF.to {db B:Nat} {w W:World} (h:aF db w W) (hb:B<=db) (a:B<=w.heap.size):Below B w W:=⟨h.os,h.tape,h.output,h.sz,λk b=>h.bl k (Nat.lt_of_lt_of_le b a) oO⟩
theorem bu.cell {w:World} {db:Nat} {l:List Bool} (h:bu w db l) {i:Nat} (a:i<l.length):w.cell? ⟨db,i,none⟩=some (.bool (l.getD i false)):=by
 refine ae.cell h i _ ?_;simp[List.getD,a,vB]
theorem bu.set {w:World} {db:Nat} {l:List Bool} (h:bu w db l) (i:Nat) (b:Bool):bu (w.setCell ⟨db,i,none⟩ (.bool b)) db (l.set i b):=by
 have:=heap_setCell_same w db i _ _ (.bool b) h;unfold bu ae;rw[this];simp[List.map_set,vB]
theorem bu.below {w W:World} {db:Nat} {l:List Bool} (h:bu w db l) (hb:Below w.heap.size w W):bu W db l:=ae.below h hb
theorem po {a:Act} {b:Oper} {W:World} {x q:Operand} (c:b.op= .store 4 q x) (p:Addr) (v:Bool) (hq:a.eval q= .pointer (some p)) (d:a.eval x= .bool v) {u:Value} (hc:W.cell? p=some u) (e:W.frozen? p=false):
 (execOp a.eval b).run Tryz.prog W= .ok .skip (W.setCell p (.bool v)):=by
 unfold execOp;simp only[c,hq,d,Instr.storeAt,Instr.sureAddr,Sem.run_bind,Sem.run_pure,Result.andThen_ok];go_simp
abbrev Ev (n H db N:Nat):Value:= .agg #[.int .i64 (n:Int),.int .i64 (H:Int),.slice (some ⟨db,0,none⟩) N N]
abbrev ML (n H db N:Nat):Obj:= .cells #[.int .i64 (n:Int),.int .i64 (H:Int),.slice (some ⟨db,0,none⟩) N N] 28
theorem xU (n H db N m k:Nat) (l:List Bool) (ps:List Pt) (d:List Bool) (v:Value) (B:Option Addr) (w:World) (hn:n<=1000) (cq:H<=1000) (a1:N=l.length) (cx:N<=100000000) (P:bu w db l) (bx:SP w v ps) (a5:∀A m k o,v= .slice A m k->A=some o->o.block≠db)
 (hb:SR vB false w B m k d) (a6:∀o,B=some o->o.block≠db) (bs:ps.length=d.length) (a7:∀p∈ps,jP n p<l.length):
 Calls Tryz.prog 84 #[Ev n H db N,v,.slice B m k] w λe w'=>e= .returned (.tuple #[])/\bu w' db (wrL n l ps d)/\aF db w w':=by
 obtain⟨A,c,rfl,a8,b4,a2⟩:=bx;obtain⟨Q,X⟩:∃Q,Q=ps.length:=⟨_,rfl⟩;rw[<-X]at a8⊢;have b5:=hb.hn;have b6:m=Q:=oO;subst b6;have t:=Lib.hid X;have O:=Lib.hid bs;have bz:=Lib.hid P;have b1:=Lib.hid a2;have b7:=Lib.hid hb.rd;have b8:Hid (∀o,A=some o->o.block≠db):=λo e=>a5 A _ _ o rfl e;have b9:=Lib.hid a6;have ca:=Lib.hid a7;have a3:=Lib.hid a1;have c4:m<=9223372036854775807:=by unfold maxLen at*;omega
 have a9:db<w.heap.size:=ar P;clear P a2 hb a5 a6 a7 bs X b5 a8 b4 a1;obtain⟨i,F⟩:∃i,i=w.alloc (ML n H db N):=⟨_,rfl⟩;have Y:Hid (Below w.heap.size w i):=by show Below _ _ _;rw[F];exact ax _ _
 have Z:Hid (ae i w.heap.size #[.int .i64 (n:Int),.int .i64 (H:Int),.slice (some ⟨db,0,none⟩) N N] 28):=by show ae _ _ _ _;rw[F];exact ae.new _ _ _ _ oS
 have bb:Hid (bu i db (wrL n l (ps.take 0) (d.take 0))/\aF db i i):=by
  show _/\_;rw[List.take_zero,pW];exact⟨bz.out.below Y.out,aF.refl _ _⟩
 have cb:=Lib.hid a9;go_enter Tryz.func84,Tryz.ntmps84;go_wp2;rw[<-F];clear F a9;go_loopw [10] (λS wr=>∃j:Nat,j<=m/\S= .int .i64 j/\Hid (bu wr db (wrL n l (ps.take j) (d.take j))/\aF db i wr)) (λS _=>m-(intOf S).toNat)
 case atStart=>exact⟨0,Nat.zero_le _,rfl,bb.out⟩
 case round=>
  clear bb;obtain⟨j,cr,rfl,u⟩:=hrel;by_cases z:j<m
  ·obtain⟨g,D,rfl,G,bd⟩:=b1.out (by rw[<-t.out];omega);obtain⟨x,rfl,ab,be⟩:=b7.out (by rw[<-O.out,<-t.out];omega);have T:=bd j (by rw[<-t.out];exact z);have a4:=be j (by rw[<-O.out,<-t.out];exact z);have bf:g≠db:=b8.out _ rfl;have bt:x.block≠db:=b9.out _ rfl;have bi:ps.getD j (0,0)∈ps:=by
    have:j<ps.length:=by rw[<-t.out];exact z
    simp only[List.getD,List.getElem?_eq_getElem this,Option.getD_some];exact List.getElem_mem this
   have ap:=ca.out _ bi;have bv:Hid (wrL n l (ps.take (j+1)) (d.take (j+1))=(wrL n l (ps.take j) (d.take j)).set (jP n (ps.getD j (0,0))) (d.getD j false)):=ug n l ps d (by rw[<-t.out];exact z) (by rw[<-O.out,<-t.out];exact z);have bo:Hid ((wrL n l (ps.take j) (d.take j)).length=l.length):=fT _ _ _ _;generalize ps.getD j (0,0)=p at*;generalize d.getD j false=b at*;generalize wrL n l (ps.take j) (d.take j)=U at*;have y:aF db w wr:=(aF.below Y.out).trans u.out.2;have e1:wr.cell? ⟨g,D+j* 2,none⟩=some (.int .i64 (p.1:Int)):=(y.cell (a:=⟨g,D+j* 2,none⟩) G bf).trans T.1;have e2:wr.cell? ⟨g,D+j* 2+1,none⟩=some (.int .i64 (p.2:Int)):=(y.cell (a:=⟨g,D+j* 2+1,none⟩) G bf).trans T.2;have e3:wr.cell? (x.add j)=some (.bool b):=(y.cell (a:=x.add j) (by rw[aI];exact ab) (by rw[aI];exact bt)).trans a4;have ce:g<wr.heap.size:=Nat.lt_of_lt_of_le G y.sz;have ac:x.block<wr.heap.size:=Nat.lt_of_lt_of_le ab y.sz;obtain⟨f,J⟩:∃f,f=wr.alloc (.cells #[.int .i64 (p.1:Int),.int .i64 (p.2:Int)] 47):=⟨_,rfl⟩;obtain⟨s,K⟩:∃s,s=wr.heap.size:=⟨_,rfl⟩;have C:Hid (Below wr.heap.size wr f):=by show Below _ _ _;rw[J];exact ax _ _
   have L:Hid (ae f s #[.int .i64 (p.1:Int),.int .i64 (p.2:Int)] 47):=by show ae _ _ _ _;rw[J,K];exact ae.new _ _ _ _ oS
   have cg:Hid (bu f db U):=u.out.1.below C.out;have M:w.heap.size<i.heap.size:=ar Z.out;have bq:w.heap.size≠db:=by have:=cb.out;omega
   have ch:w.heap.size<f.heap.size:=Nat.lt_of_lt_of_le (Nat.lt_of_lt_of_le M u.out.2.sz) C.out.size;have ad:aF db i f:=u.out.2.trans (aF.below C.out);have av:s≠db:=by rw[K];have V:=ar u.out.1;omega
   have b2:Hid (∀W,aF db f W->(W.cell? ⟨w.heap.size,0,none⟩=some (.int .i64 (n:Int))/\W.cell? ⟨w.heap.size,2,none⟩=some (.slice (some ⟨db,0,none⟩) N N))/\(W.cell? ⟨s,0,none⟩=some (.int .i64 (p.1:Int))/\W.cell? ⟨s,1,none⟩=some (.int .i64 (p.2:Int)))/\W.cell? (x.add j)=some (.bool b)):=by
    show∀W,_;intro W E;have V:=ad.trans E;refine⟨⟨(V.cell (a:=⟨w.heap.size,0,none⟩) M bq).trans (Z.out.cell 0 _ rfl),(V.cell (a:=⟨w.heap.size,2,none⟩) M bq).trans (Z.out.cell 2 _ rfl)⟩,⟨(E.cell (a:=⟨s,0,none⟩) (ar L.out) av).trans (L.out.cell 0 _ rfl),(E.cell (a:=⟨s,1,none⟩) (ar L.out) av).trans (L.out.cell 1 _ rfl)⟩,?_⟩;exact(E.cell (a:=x.add j) (by rw[aI];exact Nat.lt_of_lt_of_le ac C.out.size) (by rw[aI];exact bt)).trans ((C.out.cell (by rw[aI];exact ac)).trans e3)
   obtain⟨q,hq⟩:∃q,q=p.2* n:=⟨_,rfl⟩;obtain⟨r,a0⟩:∃r,r=jP n p:=⟨_,rfl⟩;have ci:r=q+p.1:=by rw[a0,hq];rfl
   rw[<-a0]at ap bv;rw[<-a3.out]at ap;have cy:q<=100000000:=oO;have c2:(p.2:Int)* (n:Int)=(q:Int):=by rw[hq];simp
   have cs:IntKind.i64.wrap (q:Int)=(q:Int):=aE _ oO oO;have cv:IntKind.i64.wrap ((q:Int)+(p.1:Int))=(r:Int):=by rw[aE _ oO oO];omega
   have c5:(r:Int)<(N:Int):=oO;have co:Hid (r<U.length):=by show _<_;rw[bo.out,<-a3.out];exact ap
   have c3:(j:Int)<(m:Int):=oO;clear hq a0 ci bd be T a4 bi bo;have ck:=Lib.hid ad;clear ad y ch av;go_wp2;rw[<-J,<-K];clear J K e1 e2 e3 M ce ac G ab;have al:Hid (aF db f f.drew):=aF.below (ai (Below.refl _ _));refine yO (λW=>aF db f W) [1,2,3,4,5,6,7,8,9,10,11,12,13,14,15,0,16] al.out ?_
   repeat refine zO b2.out ?_
   have am:Hid (bu f.drew db U):=cg.out.below (ai (Below.refl _ _));refine' aY (w':=f.drew.setCell ⟨db,r,none⟩ (.bool b)) rfl (po rfl ⟨db,r,none⟩ b rfl rfl (am.out.cell co.out) (frozen_of_row _ _ _ _ _ am.out)) (al.out.trans (aF.jn _)) ?_;simp only[yQ,yU,yX,yY];refine ag ?_;have cp:Hid (bu (f.drew.setCell ⟨db,r,none⟩ (.bool b)) db (wrL n l (ps.take (j+1)) (d.take (j+1)))/\aF db i (f.drew.setCell ⟨db,r,none⟩ (.bool b))):=by
    show _/\_;rw[bv.out];exact⟨am.out.set _ _,(ck.out.trans al.out).trans (aF.jn _)⟩
   go_wp2;exact⟨⟨j+1,by omega,by go_num,cp.out⟩,by simp[intOf];omega⟩
  ·obtain rfl:j=m:=oO;have b3:Hid (wrL n l (ps.take j) (d.take j)=wrL n l ps d):=by show _=_;rw[t.out,List.take_length,O.out,List.take_length]
   go_wp2;refine bodyPost_end (results_none rfl _ _ _) rfl ?_;exact⟨rfl,by rw[<-b3.out];exact u.out.1,(aF.below Y.out).trans u.out.2⟩
end
section
open Fl
theorem nL {s p par first:Nat} {w:List Nat} {r:Option (List Nat)} (h:fE s p par first w r):xI s p par first w=r:=by
 unfold xI;split
 ·rename_i a
  exact(h.1 _ (Classical.choose_spec a)).symm
 ·rename_i a
  cases r with
  |none=>rfl
  |some v=>exact absurd ⟨v,h.2 v rfl⟩ a
section
variable {c s p : Nat} (h : VF c s p)
include h
end
end
section
open Go.RowKit
noncomputable def cZ (l:List UInt8):List Bool:=@dite _ (∃C,cT (bA l) C) (Classical.propDecidable _) (λh=>uO (bA l) (Classical.choose h)) (λ_=>[])
theorem p8 {l:List UInt8} {C:Nat->Nat->Nat} (hl:l.length<=4096) (h:cT (bA l) C):cZ l=uO (bA l) C:=by
 unfold cZ;rw[dif_pos ⟨C,h⟩];exact(uT (by rw[pT];exact hl) (Classical.choose_spec (⟨C,h⟩:∃C,cT (bA l) C)) h).1
theorem uD {l:List UInt8} {C:Nat->Nat->Nat} (hl:l.length<=2078) (h:cT (bA l) C):(cZ l).length<=8* l.length+21:=by
 have hs:(bA l).size<=4096:=by rw[pT];omega
 rw[p8 oO h,uq hs h];exact D1 hl (h.ac hs)
def uu (L:Nat) (c:Bool) (k size a:Nat):Bool:=decide (k<=eH c)&&decide (aB L* k+size* a/100+11<=aB L* bH L c)
def qn (c:Bool):List (Nat×Bool):=(List.range 4).map (λi=>(i+1,true))++(if c=true then[]else(List.range 29).map λi=>(i+4,false))
def EK (a:Nat) (b:Bool):List (Nat×Bool):=if a=0 then qn b else[(a,b)]
def j4 (t:List Bool) (a:Nat) (p:Nat×Bool):Bool:=uu p.1 p.2 (aU t (aB p.1)).length t.length a
def gJ (t:List Bool) (c a:Nat) (b:Bool):Option (Nat×Bool):=(EK a b).find? (j4 t c)
noncomputable def ig (L:Nat) (c:Bool) (k:Nat):List Bool:=bc (fa 16 19 (du c) 1 (aL (bh (L-1) (dY c)++bh (k-1) (fe c)) 4 (if c=true then 2 else 4))) 4
noncomputable def xF (L:Nat) (c:Bool) (a:List Nat):List Nat:=fa (2^aB L) (pO (aB L)) (bH L c-a.length) 1 a
noncomputable def ng (L:Nat) (c:Bool) (a:List Nat):List Bool:=bc (xF L c a) (aB L)
noncomputable def kB (L:Nat) (c:Bool) (a:List Nat):List Bool:=IC L c (ng L c a) (ig L c a.length)
def ox (n:Nat) (a:Int) (c:Bool) (b:Int):Int:=if 4096<n then 4 else if n=0 then 5 else if a≠0/\fM a c=false then 14 else if b<5\/90<b then 3 else 0
noncomputable def sw (l:List UInt8) (a:Int) (b:Bool) (c:Int):Option (Nat×Bool)×Int:=
 if ox l.length a b c≠0 then(none,ox l.length a b c)else match gJ (cZ l) c.toNat a.toNat b with
  |some p=>(some p,0)
  |none=>(none,16)
noncomputable def zb (c:Bool) (b:List Bool):Option (Nat×Nat):=(xI 16 19 (du c) 1 (aL b 4 (b.length/4))).map λv=>(numF (bc v 4) 0 (dY c)+1,numF (bc v 4) (dY c) (fe c)+1)
theorem Ih:pK 4:= .inl rfl
theorem wv (c:Bool):dF 2 16 19 (du c) 1:=It (w:=4) Ih (by cases c<;>decide) (by cases c<;>decide)
def gA (c:Bool):Nat:=if c=true then 2 else 4
theorem BD (L:Nat) (c:Bool) (k:Nat):ig L c k=bc (fa 16 19 (du c) 1 (aL (bh (L-1) (dY c)++bh (k-1) (fe c)) 4 (gA c))) 4:=rfl
theorem uA (L:Nat) (c:Bool) (b:1<=L) (a:L<=32):15<=aD L c/\aD L c<=161:=by
 have h:=gM (c:=c) a;have d:=Al (c:=c) b a;have e:=LQ c;omega
theorem bu.sr {w:World} {db:Nat} {l:List Bool} (h:bu w db l) {n:Nat} (hn:n=l.length) (a:n<=maxLen):SR vB false w (some ⟨db,0,none⟩) n n l:=
 ⟨hn,Nat.le_refl _,a,λ_=>⟨⟨db,0,none⟩,rfl,ar h,λj b=>by rw[add_plain,Nat.zero_add];exact h.cell b⟩⟩
theorem EG (n:Nat):madeCells (Value.bool false).cells n=((List.replicate n false).map vB).toArray:=by
 show madeCells #[Value.bool false] n=_;apply Array.ext';simp only[madeCells,Array.toList_map,vB,List.map_replicate];apply List.ext_getElem oS;intro i a b;simp[Nat.mod_one]
theorem vx (n:Nat) (hn:n<=100000000) (W:World):(Instr.makeSlice 26 (.int .i64 (n:Int)) (.int .i64 (n:Int))).run Tryz.prog W= .ok (.slice (some ⟨W.heap.size,0,none⟩) n n) (W.alloc (.cells ((List.replicate n false).map vB).toArray 4)):=by
 obtain⟨a,b,c,d,e⟩:=info_parts gU;have h:=run_make (P:=Tryz.prog) W 26 4 a (.bool false) Tryz.underlying26 b c .i64 .i64 (n:Int) (n:Int) oO oO (by rw[e];omega) oO;rw[d,Nat.mul_one]at h;simp only[Int.toNat_natCast]at h;rw[EG]at h;exact h
theorem bu.new (W:World) (l:List Bool):bu (W.alloc (.cells (l.map vB).toArray 4)) W.heap.size l:=ae.new _ _ _ _ oS
theorem BG (v n:Nat):∀k,lowF v n k=(List.range k).map λj=>ie v (n-1-j)
 |0=>rfl
 |k+1=>by
  show lowF v n k++[ie v (n-1-k)]=_;rw[BG v n k,List.range_succ,List.map_append];rfl
def nu (v n k:Nat):List Bool:=(List.range n).map λj=>decide (n-k<=j)&&ie v (n-1-j)
theorem I7 (v n:Nat):nu v n 0=List.replicate n false:=by
 unfold nu;apply List.ext_getElem oS;intro i a b;simp at a;simp[show¬n<=i from by omega]
theorem K3 (v n:Nat):nu v n n=bh v n:=by
 unfold nu bh;rw[BG];apply List.map_congr_left;intro j _;simp
theorem nB (v n k:Nat):(nu v n k).length=n:=by unfold nu;simp
theorem Dj {v n k i:Nat} (h:i<(nu v n k).length):(nu v n k)[i]=(decide (n-k<=i)&&ie v (n-1-i)):=by simp[nu]
theorem IU {v n k:Nat} (c:k<n):(nu v n k).set (n-1-k) (ie v k)=nu v n (k+1):=by
 apply List.ext_getElem (by rw[List.length_set,nB,nB]);intro i d a;have b:=a;rw[nB]at b;rw[List.getElem_set,Dj a];by_cases h:n-1-k=i
 ·subst h;rw[if_pos rfl,show n-1-(n-1-k)=k from by omega,decide_eq_true oO,Bool.true_and]
 ·rw[if_neg h,Dj];have:decide (n-k<=i)=decide (n-(k+1)<=i):=by rw[decide_eq_decide];omega
  rw[this]
theorem nU (v n:Nat) (w:World) (r:v<=1000000000000) (hn:n<=62):
 Calls Tryz.prog 118 #[.int .i64 v,.int .i64 n] w λe w'=>∃db,e= .returned (.slice (some ⟨db,0,none⟩) n n)/\db=w.heap.size/\bu w' db (bh v n)/\Below w.heap.size w w':=by
 obtain⟨db,b⟩:∃db,db=w.heap.size:=⟨_,rfl⟩;have l:=vx n oO w;rw[<-b]at l;have m:Hid (bu (w.alloc (.cells ((List.replicate n false).map vB).toArray 4)) db (List.replicate n false)):=by show bu _ _ _;rw[b];exact bu.new _ _
 have o:Hid (Below w.heap.size w (w.alloc (.cells ((List.replicate n false).map vB).toArray 4))):=ax _ _;have p:=Lib.hid b;generalize w.alloc (.cells ((List.replicate n false).map vB).toArray 4)=E at*;clear b;go_enter Tryz.func118,Tryz.ntmps118;go_wp2;clear l;go_loopw [0,6] (λs c wr=>∃(k x:Nat) (j:Int),k<=n/\s= .int .i64 x/\c= .int .i64 j/\Hid (j=(n:Int)-1-k)/\x<=1000000000000/\Hid (x=v/2^k)/\Hid (bu wr db (nu v n k))/\Hid (Below w.heap.size w wr)) (λ_ c _=>(intOf c+1).toNat)
 case atStart=>exact⟨0,v,_,Nat.zero_le _,rfl,rfl,by show _=_;omega,r,by show _=_;rw[Nat.pow_zero,Nat.div_one],by show bu _ _ _;rw[I7];exact m.out,o.out⟩
 case round=>
  clear m o;obtain⟨k,x,j,F,rfl,rfl,d,G,f,a,hB⟩:=hrel;by_cases u:k<n
  ·obtain⟨i,q⟩:∃i,i=n-1-k:=⟨_,rfl⟩;obtain rfl:j=(i:Int):=by have:=d.out;omega
   have g:=Lib.hid q;have z:i<n:=oO;have H:i<=61:=oO;have A:Hid ((nu v n k).set i (ie v k)=nu v n (k+1)):=by show _=_;rw[g.out];exact IU u
   have M:((x:Int)%2==1)=ie v k:=by
    unfold ie;rw[<-f.out,Bool.eq_iff_iff];simp;omega
   have J:wr.cell? ⟨db,i,none⟩=some (.bool ((nu v n k).getD i false)):=a.out.cell (by rw[nB];exact z);have K:wr.frozen? ⟨db,i,none⟩=false:=frozen_of_row _ _ _ _ _ a.out;have B:Hid (x/2=v/2^(k+1)):=by show _=_;rw[f.out,Nat.div_div_eq_div_mul,Nat.pow_succ]
   generalize ie v k=y at*;have D:Hid (bu (wr.setCell ⟨db,i,none⟩ (.bool y)) db (nu v n (k+1))):=by show bu _ _ _;rw[<-A.out];exact a.out.set i y
   have C:Hid (Below w.heap.size w (wr.setCell ⟨db,i,none⟩ (.bool y))):=hB.out.setCell (by rw[p.out];exact Nat.le_refl _) _;clear q;go_wp2;exact⟨⟨k+1,x/2,_,by omega,by go_num,rfl,by have:=g.out;show _=_;omega,by omega,B.out,D.out,C.out⟩,by simp[intOf]⟩
  ·obtain rfl:k=n:=oO;have L:decide ((0:Int)<=j)=false:=by have:=d.out;simp;omega
   have t:Hid (bu wr db (bh v k)):=by show bu _ _ _;rw[<-K3];exact a.out
   go_wp2;go_ret;exact⟨db,rfl,p.out,t.out,hB.out⟩
theorem kq (A:Option Addr) (n c:Nat) (b:List Bool) (w:World) (hn:n<=40) (hb:SR vB false w A n c b):
 Calls Tryz.prog 72 #[.slice A n c] w λe w'=>e= .returned (.int .i64 ((numF b 0 n:Nat):Int))/\w'=w:=by
 have p:=Lib.hid hb;have i:Hid (n=b.length):=hb.hn;clear hb;go_enter Tryz.func72,Tryz.ntmps72;go_wp2;go_loop [3,4] (λq f=>∃k x:Nat,k<=n/\f= .int .i64 k/\q= .int .i64 x/\x<=2199023255552/\Hid (x=numF b 0 k)) (λ_ f=>n-(intOf f).toNat)
 case atStart=>exact⟨0,0,Nat.zero_le _,rfl,rfl,by omega,rfl⟩
 case round=>
  obtain⟨k,x,u,rfl,rfl,v,j⟩:=hrel;by_cases t:k<n
  ·obtain⟨z,rfl,C,o⟩:=p.out.rd (by rw[<-i.out];omega);have B:=o k (by rw[<-i.out];exact t);clear o;have l:Hid (∀y,b.getD k false=y->numF b 0 (k+1)=2* x+(if y then 1 else 0)):=by
    show∀y,_;rintro y rfl;rw[j.out];show 2* _+(if b.getD (0+k) false then 1 else 0)=_;rw[Nat.zero_add]
   generalize b.getD k false=y at*;have r:2^(k+1)<=2^40:=Nat.pow_le_pow_right oO oO;have a:=mo b 0 (k+1);have s:(2:Nat)^40=1099511627776:=by decide
   have m:numF b 0 (k+1)<=1099511627776:=oO;clear a r s;cases y with
   |true=>
    have d:=Lib.hid (l.out true rfl);have g:2* x+1<=2199023255552:=by
     have a:=d.out;simp only[if_true]at a;omega
    clear m;go_wp2;exact⟨⟨k+1,2* x+1,by omega,by go_num,by go_num,g,d.out.symm⟩,by simp[intOf];omega⟩
   |false=>
    have d:=Lib.hid (l.out false rfl);have g:2* x<=2199023255552:=by
     have a:=d.out;simp only[Bool.false_eq_true,if_false]at a;omega
    clear m;go_wp2;exact⟨⟨k+1,2* x,by omega,by go_num,by go_num,g,d.out.symm⟩,by simp[intOf];omega⟩
  ·obtain rfl:k=n:=oO;go_wp2;go_ret;exact⟨by rw[<-j.out];rfl,rfl⟩
theorem pa (A:Option Addr) (n c s m:Nat) (b:List Bool) (w:World) (Z:1<=s) (hs:s<=12) (l:n=m* s) (hn:n<=100000) (hb:SR vB false w A n c b):
 Calls Tryz.prog 70 #[.slice A n c,.int .i64 s] w λe w'=>∃v,e= .returned v/\SG vN 0 w' v (aL b s m)/\Below w.heap.size w w':=by
 obtain⟨y,z,H,J,K⟩:=info_parts bZ;have j:=Lib.hid hb;have q:=Lib.hid l;have ab:m<=n:=by rw[l];exact Nat.le_mul_of_pos_right m oO
 clear hb l;go_enter Tryz.func70,Tryz.ntmps70;go_wp2;go_loopw [5,6] (λB o wr=>∃i a:Nat,i<=m/\a<=n/\o= .int .i64 a/\Hid (a=i* s)/\Hid (OG vN 3 w wr B (aL b s i))) (λ_ o _=>n-(intOf o).toNat)
 case atStart=>exact⟨0,0,Nat.zero_le _,Nat.zero_le _,rfl,by show _=_;rw[Nat.zero_mul],OG.start _ _⟩
 case round=>
  obtain⟨i,a,ac,ad,rfl,k,g⟩:=hrel;obtain⟨E,p⟩:∃E,E=a+s:=⟨_,rfl⟩;have al:(a:Int)+(s:Int)=(E:Int):=oO;by_cases am:i<m
  ·have L:E<=n:=by
    have X:=k.out;have Y:=q.out;have C:(i+1)* s<=m* s:=Nat.mul_le_mul_right s oO;rw[Nat.add_mul,Nat.one_mul]at C;omega
   have M:=Lib.hid (j.out.below g.out.B);have N:=j.out.hc;obtain⟨D,rfl,-,-⟩:=j.out.rd (by rw[<-j.out.hn];omega);have O:Hid (a<=E):=by show _<=_;omega
   have P:Hid (E<=c):=by show _<=_;omega
   have Q:Hid (a<c):=by show _<_;omega
   have S:Hid (E-a=s):=by show _=_;omega
   have T:Hid (E=(i+1)* s):=by show _=_;rw[p,k.out,Nat.add_mul,Nat.one_mul]
   have U:Hid (Calls Tryz.prog 72 #[.slice (some (D.add a)) s (c-a)] wr λe w'=>e= .returned (.int .i64 ((numF b a s:Nat):Int))/\w'=wr):=by
    show Calls _ _ _ _ _;rw[<-jk];exact kq _ s _ _ wr oO (M.out.piece a s _ oO oO oO)
   have V:Hid (aL b s (i+1)=aL b s i++[numF b a s]):=by show _=_;rw[tU,k.out]
   have r:Hid ((aL b s i).length<=100000):=by show _<=_;rw[eO];omega
   generalize numF b a s=x at*;have av:a<n:=oO;clear N p
   go_wp2_with(first
    |((with_reducible show wpList _ _ _ (⟨_,Op.slice 26 _ _ _ _,_,_,_,_⟩::_) _ _);refine pr rfl (px rfl rfl rfl rfl a E rfl rfl O.out P.out Q.out) ?_;rw[S.out])
    |(go_at_call 72;refine U.out.mono ?_;rintro e w' ⟨rfl,t⟩;rw[t];clear t)
    |(at_builtin;refine bg (f:=vN) (d:=0) qy rfl _ _ _ rfl w.heap.size 3 y _ 8 Tryz.underlying64 z H J K rfl _ (aL b s i).length (aL b s i) rfl (ao g.out.O (ax _ _)) (some ⟨wr.heap.size,0,none⟩) 1 1 [x] rfl rfl (RG.one _ _ _ _ rfl) (by have:=r.out;unfold maxLen;omega) (by have:=r.out;omega) (by have:=g.out.B.size;simp;omega) ?_;intro v1 F u hg;have G:Hid (OG vN 3 w F v1 (aL b s i++[x])):=g.out.grow (ax _ _) u hg;clear u hg))
   exact⟨⟨i+1,E,by omega,L,by go_num,T.out,by show OG _ _ _ _ _ _;rw[V.out];exact G.out⟩,by simp[intOf];omega⟩
  ·obtain rfl:i=m:=oO;have W:a=n:=by rw[k.out,q.out]
   have ap:decide (E<=n)=false:=by simp;omega
   clear p W;go_wp2;go_ret;exact⟨_,rfl,g.out.sg,g.out.B⟩
theorem qW (A:Option Addr) (n c s:Nat) (l:List Nat) (w:World) (V:1<=s) (hs:s<=12) (hn:n<=8000) (hl:aj (2^s) l) (hb:SR vN 0 w A n c l):
 Calls Tryz.prog 71 #[.slice A n c,.int .i64 s] w λe w'=>∃v,e= .returned v/\SG vB false w' v (bc l s)/\Below w.heap.size w w':=by
 obtain⟨u,y,J,K,L⟩:=info_parts gU;have z:=Lib.hid hb;have b:Hid (n=l.length):=hb.hn;have B:=Lib.hid hl;have X:n<=9223372036854775807:=oO;clear hb hl;go_enter Tryz.func71,Tryz.ntmps71;go_wp2;go_loopw [5,6] (λC g wr=>∃i:Nat,i<=n/\g= .int .i64 i/\Hid (OG vB 4 w wr C (bc (l.take i) s))) (λ_ g _=>n-(intOf g).toNat)
 case atStart=>exact⟨0,Nat.zero_le _,rfl,OG.start _ _⟩
 case round=>
  obtain⟨i,W,rfl,a⟩:=hrel;by_cases m:i<n
  ·obtain⟨S,rfl,Q,o⟩:=(z.out.below a.out.B).rd (by rw[<-b.out];omega);have T:=o i (by rw[<-b.out];exact m);have D:Hid (l.getD i 0<2^s):=B.out i;have j:Hid (bc (l.take (i+1)) s=bc (l.take i) s++bh (l.getD i 0) s):=uY l s (by rw[<-b.out];exact m);have p:Hid ((bc (l.take i) s).length<=100000000):=by
    show _<=_;rw[dc,List.length_take];have:min i l.length* s<=8000* 12:=Nat.mul_le_mul oO hs;omega
   generalize l.getD i 0=x at*;have M:x<=1000000000000:=by have E:=D.out;have F:=qV hs;omega
   have N:=Lib.hid (nU x s wr M oO);clear o Q
   go_wp2_with(first
    |(go_at_call 118;refine N.out.mono ?_;rintro e U ⟨db,rfl,O,q,r⟩;have P:=Lib.hid q;have k:=Lib.hid r;clear q r O)
    |(at_builtin;refine bg (f:=vB) (d:=false) AF rfl _ _ _ rfl w.heap.size 4 u _ 1 Tryz.underlying26 y J K L rfl _ (bc (l.take i) s).length (bc (l.take i) s) rfl (ao a.out.O k.out) (some ⟨db,0,none⟩) s s (bh x s) rfl (bM _ _).symm (P.out.sr (bM _ _).symm oM).rd (by have:=p.out;unfold maxLen;omega) (by have:=p.out;omega) (by have E:=a.out.B.size;have F:=k.out.size;omega) ?_;intro v1 G t hg;have H:Hid (OG vB 4 w G v1 (bc (l.take i) s++bh x s)):=a.out.grow k.out (by rw[bM];exact t) hg;clear t hg))
   exact⟨⟨i+1,by omega,by go_num,by show OG _ _ _ _ _ _;rw[j.out];exact H.out⟩,by simp[intOf];omega⟩
  ·obtain rfl:n=i:=oO;have j:Hid (l.take n=l):=by show _=_;rw[b.out,List.take_length]
   go_wp2;go_ret;exact⟨_,rfl,by have h:=a.out.sg (d:=false);rw[j.out]at h;exact h,a.out.B⟩
end
end Go.Proofs.YtmnlkganmgcpbaaGreatDoor
