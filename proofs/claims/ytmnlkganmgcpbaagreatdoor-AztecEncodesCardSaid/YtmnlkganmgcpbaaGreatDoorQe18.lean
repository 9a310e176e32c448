import Derived.Test.YtmnlkganmgcpbaaGreatDoorQe17
set_option maxRecDepth 100000
set_option maxHeartbeats 4000000
set_option linter.unusedVariables false
set_option linter.unusedSectionVars false
set_option linter.unusedSimpArgs false
namespace Go.Proofs.YtmnlkganmgcpbaaGreatDoor
section
open Go.RowKit
def aX (C:Nat) (c:Bool):List Pt:=(aE c).map λa=>(mU C a,C-bD c)
def bH (C:Nat) (c:Bool):List Pt:=(aE c).map λa=>(C+bD c,mU C a)
def cI (C:Nat) (c:Bool):List Pt:=(aE c).reverse.map λa=>(mU C a,C+bD c)
def ff (C:Nat) (c:Bool):List Pt:=(aE c).reverse.map λa=>(C-bD c,mU C a)
theorem lK (C:Nat) (c:Bool):dc C c=aX C c++bH C c++cI C c++ff C c:=rfl
theorem lF {α a:Type} (f:α->a) (l:List α) (d:α) (e:a) {j:Nat} (b:j<l.length):(l.map f).getD j e=f (l.getD j d):=by simp[List.getD,b]
theorem ya {α:Type} (l:List α) (d:α) {j:Nat} (a:j<l.length):l.reverse.getD j d=l.getD (l.length-1-j) d:=by
 simp[List.getD,List.getElem?_reverse a]
theorem dB {α:Type} (l:List α) (d:α) {j:Nat} (a:j<l.length):l.take (j+1)=l.take j++[l.getD j d]:=by
 rw[List.take_succ_eq_append_getElem a];simp[List.getD,a]
theorem dS {c:Bool} {j:Nat} (a:j<(aE c).length):-((bD c:Nat):Int)+2<=(aE c).getD j 0/\(aE c).getD j 0+2<=((bD c:Nat):Int):=by
 refine Cx ?_;simp only[List.getD,List.getElem?_eq_getElem a,Option.getD_some];exact List.getElem_mem a
theorem bu (C:Nat) (c:Bool):(aX C c).length=(aE c).length/\(bH C c).length=(aE c).length/\(cI C c).length=(aE c).length/\(ff C c).length=(aE c).length:=by
 simp[aX,bH,cI,ff]
abbrev fi (n:Nat) (c:Bool) (C m:Nat):Value:= .agg #[.int .i64 (n:Int),.bool c,.int .i64 (C:Int),.int .i64 (m:Int)]
theorem fI (C:Nat) (c:Bool) (e:bD c<=C) (k j:Nat) (f:k<4) (a:j<(aE c).length):∃x y:Nat,(match k with|0=>aX C c|1=>bH C c|2=>cI C c|_=>ff C c).getD j (0,0)=(x,y)/\
 (k=0->((C:Int)+(aE c).getD j 0=(x:Int)/\(C:Int)-((bD c:Nat):Int)=(y:Int)))/\(k=1->((C:Int)+((bD c:Nat):Int)=(x:Int)/\(C:Int)+(aE c).getD j 0=(y:Int)))/\
 (k=2->((C:Int)+(aE c).getD ((aE c).length-1-j) 0=(x:Int)/\(C:Int)+((bD c:Nat):Int)=(y:Int)))/\(k=3->((C:Int)-((bD c:Nat):Int)=(x:Int)/\(C:Int)+(aE c).getD ((aE c).length-1-j) 0=(y:Int)))/\x<=2* C/\y<=2* C:=by
 have g:=dS a;have d:(aE c).length-1-j<(aE c).length:=oO;have i:=dS d;have b:j<(aE c).reverse.length:=by simpa using a
 obtain rfl|rfl|rfl|rfl:k=0\/k=1\/k=2\/k=3:=oO
 ·refine⟨_,_,lF _ _ 0 _ a,λ_=>?_,λh=>by omega,λh=>by omega,λh=>by omega,?_,?_⟩<;>(try unfold mU)<;>omega
 ·refine⟨_,_,lF _ _ 0 _ a,λh=>by omega,λ_=>?_,λh=>by omega,λh=>by omega,?_,?_⟩<;>(try unfold mU)<;>omega
 ·refine⟨_,_,(lF _ _ 0 _ b).trans (by rw[ya _ _ a]),λh=>by omega,λh=>by omega,λ_=>?_,λh=>by omega,?_,?_⟩<;>(try unfold mU)<;>omega
 ·refine⟨_,_,(lF _ _ 0 _ b).trans (by rw[ya _ _ a]),λh=>by omega,λh=>by omega,λh=>by omega,λ_=>?_,?_,?_⟩<;>(try unfold mU)<;>omega
theorem zg (n:Nat) (w:World) (c:1<=n) (hn:n<=100000000):Calls Tryz.prog 39 #[.int .i64 n,.bool true] w λe w'=>e= .returned (fi n true ((n-1)/2) 5)/\Below w.heap.size w w':=by
 obtain⟨a,b⟩:∃a,a=(n-1)/2:=⟨_,rfl⟩;have e1:((n:Int)-1)/2=(a:Int):=oO;have d:a<=100000000:=oO;rw[<-b];clear b;go_enter Tryz.func39,Tryz.ntmps39;go_wp2;exact bodyPost_ret (v:=fi n true a 5) (by simp[results,Tryz.results39,go_sem]) rfl ⟨rfl,ae (ar _ _) _⟩
theorem xq (n:Nat) (w:World) (c:1<=n) (hn:n<=100000000):Calls Tryz.prog 39 #[.int .i64 n,.bool false] w λe w'=>e= .returned (fi n false ((n-1)/2) 7)/\Below w.heap.size w w':=by
 obtain⟨a,b⟩:∃a,a=(n-1)/2:=⟨_,rfl⟩;have e1:((n:Int)-1)/2=(a:Int):=oO;have d:a<=100000000:=oO;rw[<-b];clear b;go_enter Tryz.func39,Tryz.ntmps39;go_wp2;exact bodyPost_ret (v:=fi n false a 7) (by simp[results,Tryz.results39,go_sem]) rfl ⟨rfl,ae (ar _ _) _⟩
theorem r9 (n:Nat) (c:Bool) (w:World) (a:1<=n) (hn:n<=100000000):Calls Tryz.prog 39 #[.int .i64 n,.bool c] w λe w'=>e= .returned (fi n c ((n-1)/2) (bD c))/\Below w.heap.size w w':=by
 cases c with
 |true=>exact zg n w a hn
 |false=>exact xq n w a hn
def gC (c:Bool) (a:Nat):List Int:=((List.range a).map λi:Nat=>(2:Int)-((bD c:Nat):Int)+(i:Int)).filter λb=>!(b==0)||c
theorem yj (c:Bool) (a:Nat):gC c (a+1)=if(!((2:Int)-((bD c:Nat):Int)+(a:Int)==0)||c)=true then gC c a++[(2:Int)-((bD c:Nat):Int)+(a:Int)]else gC c a:=by
 unfold gC;rw[List.range_succ,List.map_append,List.filter_append];simp only[List.map_cons,List.map_nil,List.filter_cons,List.filter_nil];split<;>simp
theorem B6 (c:Bool):gC c (2* bD c-3)=aE c:=by cases c<;>decide
theorem uk (c:Bool) (a:Nat):(gC c a).length<=a:=by
 unfold gC;exact Nat.le_trans (List.length_filter_le _ _) oS
theorem xH (s C:Nat) (w:World) (a2:5<=C) (d4:C<=100000000):Calls Tryz.prog 43 #[fi s true C 5] w λe w'=>∃v,e= .returned v/\ee w.heap.size w' v (dc C true)/\Below w.heap.size w w':=by
 obtain⟨cs,cv,dn,ds,dx⟩:=info_parts nJ;obtain⟨b8,T,ca,cb,ce⟩:=info_parts dd;obtain⟨O,ap⟩:∃O,O=w.alloc (.cells #[.int .i64 (s:Int),.bool true,.int .i64 (C:Int),.int .i64 5] 71):=⟨_,rfl⟩;have cg:Hid (Below w.heap.size w O):=by show Below _ _ _;rw[ap];exact ar _ _
 have bq:Hid (aa O w.heap.size #[.int .i64 (s:Int),.bool true,.int .i64 (C:Int),.int .i64 5] 71):=by show aa _ _ _ _;rw[ap];exact aa.new _ _ _ _ oS
 have a9:Hid (∀W,af O W->W.cell? ⟨w.heap.size,1,none⟩=some (.bool true)/\W.cell? ⟨w.heap.size,2,none⟩=some (.int .i64 (C:Int))/\W.cell? ⟨w.heap.size,3,none⟩=some (.int .i64 5)):=λW l=>⟨(bq.out.below l).cell 1 _ rfl,(bq.out.below l).cell 2 _ rfl,(bq.out.below l).cell 3 _ rfl⟩;have ch:Hid (OG vI 3 O O (.slice none 0 0) (gC true 0)):=OG.start _ _;obtain⟨ad,al,am⟩:=a9.out _ (Below.refl _ _);rw[ap]at ad al am;go_enter Tryz.func43,Tryz.ntmps43;go_wp2;rw[<-ap];clear ad al am ap;go_loopw [3,4] (λi r wr=>∃g:Nat,g<=7/\r= .int .i64 (-3+(g:Int))/\Hid (OG vI 3 O wr i (gC true g))) (λ_ r _=>10-(intOf r+5).toNat)
 case atStart=>exact⟨0,by omega,rfl,ch.out⟩
 case round=>
  clear ch;obtain⟨g,cx,rfl,a⟩:=hrel;obtain⟨ad,al,am⟩:=a9.out _ a.out.B;have bb:=Lib.hid (yj true g);by_cases B:g<7
  ·have d5:(-3:Int)+(g:Int)<=3:=oO;have G:Hid ((gC true g).length<=100):=by show _<=_;have:=uk true g;omega
   by_cases P:g=3
   ·have bd:Hid (gC true (g+1)=gC true g++[0]):=by show _=_;rw[bb.out,P,if_pos oS];rfl
    have c2:(-3:Int)+(g:Int)=0:=oO;go_wp2_with(at_builtin;refine aD (f:=vI) (d:=0) IW rfl _ _ _ rfl O.heap.size 3 b8 _ 8 Tryz.underlying64 T ca cb ce rfl _ (gC true g).length (gC true g) rfl (ah a.out.O (ar _ _)) (some ⟨wr.heap.size,0,none⟩) 1 1 [0] rfl rfl (RG.one _ _ _ _ rfl) (by have:=G.out;unfold maxLen;omega) (by have:=G.out;omega) (by have:=a.out.B.size;simp;omega) ?_;intro c3 c4 o hg;have t:=Lib.hid (a.out.grow (ar _ _) o hg);clear o hg)
    exact⟨⟨g+1,by omega,by go_num,by show OG _ _ _ _ _ _;rw[bd.out];exact t.out⟩,by simp[intOf];omega⟩
   ·have bd:Hid (gC true (g+1)=gC true g++[-3+(g:Int)]):=by show _=_;rw[bb.out,if_pos oS];rfl
    have z:((-3:Int)+(g:Int)==0)=false:=by rw[beq_eq_false_iff_ne];omega
    have d2:((-3:Int)+(g:Int)!=0)=true:=by rw[bne,z];rfl
    have c2:¬((-3:Int)+(g:Int)=0):=oO;go_wp2_with(at_builtin;refine aD (f:=vI) (d:=0) IW rfl _ _ _ rfl O.heap.size 3 b8 _ 8 Tryz.underlying64 T ca cb ce rfl _ (gC true g).length (gC true g) rfl (ah a.out.O (ar _ _)) (some ⟨wr.heap.size,0,none⟩) 1 1 [-3+(g:Int)] rfl rfl (RG.one _ _ _ _ rfl) (by have:=G.out;unfold maxLen;omega) (by have:=G.out;omega) (by have:=a.out.B.size;simp;omega) ?_;intro c3 c4 o hg;have t:=Lib.hid (a.out.grow (ar _ _) o hg);clear o hg)
    exact⟨⟨g+1,by omega,by go_num,by show OG _ _ _ _ _ _;rw[bd.out];exact t.out⟩,by simp[intOf];omega⟩
  ·obtain rfl:g=7:=oO;have d6:¬((-3:Int)+((7:Nat):Int)<=3):=oO;have bs:=SG.bU (d:=0) a.out.O;rw[show gC true 7=aE true from B6 true]at bs;have ci:=Lib.hid bs;clear bs;have bt:=Lib.hid a.out.B;clear a bb cx B;obtain⟨b,rfl⟩:∃b:World,b=wr:=⟨_,rfl⟩;obtain⟨A,n,d3,rfl,be⟩:=ci.out.parts;have ck:=Lib.hid be;have hn:n=7:=be.hn;subst hn;clear be ci;obtain⟨X,rfl,cr,co⟩:=ck.out.rd oD;have a3:Hid (∀W,af b W->∀j:Nat,j<7->W.cell? (X.add j)=some (.int .i64 ((aE true).getD j 0))):=λW l j T=>(l.cell (by rw[aV];exact cr)).trans (co j (by show j<(aE true).length;exact T));have a4:Hid (∀W,af b W->W.cell? ⟨w.heap.size,1,none⟩=some (.bool true)/\W.cell? ⟨w.heap.size,2,none⟩=some (.int .i64 (C:Int))/\W.cell? ⟨w.heap.size,3,none⟩=some (.int .i64 5)):=λW l=>a9.out W (ab bt.out l);clear cr co ck;go_wp2_with(at_make;refine wpList_make_own _ rfl _ _ _ rfl b.heap.size 47 cs _ 2 Tryz.underlying40 cv dn ds .i64 .i64 _ 28 rfl rfl (by first|rfl|omega) (by rw[dx];omega) oM (Nat.le_refl _) ?_;intro b9 o hg;have cp:Hid (Below b.heap.size b b9):=(Below.refl _ _).grown hg (Nat.le_refl _) (λq hq=>by cases hq);have cq:Hid (aL b b9 (.slice (some ⟨b.heap.size,0,none⟩) 0 28) ([]++(aX C true).take 0)):=⟨cp.out,o⟩;clear o hg ad al am)
   clear cp;go_loopw [7,43] (λi r wr=>∃j:Nat,j<=7/\r= .int .i64 (j:Int)/\Hid (aL b wr i ([]++(aX C true).take j))) (λ_ r _=>7-(intOf r).toNat)
   case atStart=>exact⟨0,by omega,rfl,cq.out⟩
   case round=>
    clear cq;obtain⟨j,T,rfl,a⟩:=hrel;by_cases B:j<7
    ·obtain⟨x,y,L,P,U,m,V,bv,bx⟩:=fI C true a2 0 j oO B;have M:Hid ([]++(aX C true).take (j+1)=([]++(aX C true).take j)++[(x,y)]):=by show _=_;rw[dB _ (0,0) (by rw[(bu C true).1];exact B),<-List.append_assoc];exact congrArg (λp=>_++[p]) L
     have G:Hid (([]++(aX C true).take j).length<=100):=by
      show _<=_;have:=bu C true;have hn:(aE true).length=7:=rfl;simp only[List.length_append,List.length_take,List.length_nil,this.1,this.2.1,this.2.2.1,this.2.2.2,hn];omega
     have D:=P rfl;have H:=D.1;have J:=D.2;have N:(aE true).getD j 0=(aE true).getD (j) 0:=by rfl
     rw[<-N]at H;have K:=dS (c:=true) (j:=j) B;have Z:Hid (∀W,af b W->W.cell? (X.add j)=some (.int .i64 ((aE true).getD j 0))):=λW l=>a3.out W l _ B;simp only[bD,Bool.false_eq_true,if_false,if_true]at H J K;generalize(aE true).getD j 0=E at*;have b1:-5<=E:=oO;have b2:E<=5:=oO;have b3:(C:Int)-5=(y:Int):=oO;clear J;clear P U m V D L N K;have c5:=Z.out _ a.out.B;obtain⟨ad,al,am⟩:=a4.out _ a.out.B;generalize[]++(aX C true).take j=Y at*;go_wp2_with(at_builtin;refine aY (ah a.out.O (ar _ _)) (Nat.le_trans a.out.B.size oS) rfl _ _ rfl rfl ⟨wr.heap.size,0,none⟩ 1 1 [(x,y)] rfl rfl (cn wr [(x,y)] _) (by have:=G.out;omega) ?_;intro v6 F o hg b4;have t:=Lib.hid (a.out.grow (ar _ _) o hg);clear o hg b4)
     first|exact⟨⟨j+1,by omega,by go_num,by show aL _ _ _ _;rw[M.out];exact t.out⟩,by simp[intOf];omega⟩|exact⟨⟨_,_,_,_,_,_,_,_,_,_,_,_,_,_,_,_,_,_,_,_,_,_,_,⟨j+1,by omega,by go_num,by show aL _ _ _ _;rw[M.out];exact t.out⟩,rfl⟩,by show 7-(intOf (.int .i64 ((j:Int)+1))).toNat<7-(intOf (.int .i64 (j:Int))).toNat;simp[intOf];omega⟩
    ·obtain rfl:j=7:=oO;have a5:∀i W,Hid (aL b W i ([]++(aX C true).take 7))->Hid (aL b W i (aX C true++(bH C true).take 0)):=λi W h=>by show aL _ _ _ _;have m:=h.out;rw[List.take_of_length_le (by simp[aX];decide)]at m;simpa using m
     have a5:=a5 _ _ a;clear a;go_wp2;go_loopw [7,61] (λi r wr=>∃j:Nat,j<=7/\r= .int .i64 (j:Int)/\Hid (aL b wr i (aX C true++(bH C true).take j))) (λ_ r _=>7-(intOf r).toNat)
     case atStart=>exact⟨0,by omega,rfl,a5.out⟩
     case round=>
      clear a5;obtain⟨j,T,rfl,a⟩:=hrel;by_cases B:j<7
      ·obtain⟨x,y,L,P,U,m,V,bv,bx⟩:=fI C true a2 1 j oO B;have M:Hid (aX C true++(bH C true).take (j+1)=(aX C true++(bH C true).take j)++[(x,y)]):=by show _=_;rw[dB _ (0,0) (by rw[(bu C true).2.1];exact B),<-List.append_assoc];exact congrArg (λp=>_++[p]) L
       have G:Hid ((aX C true++(bH C true).take j).length<=100):=by
        show _<=_;have:=bu C true;have hn:(aE true).length=7:=rfl;simp only[List.length_append,List.length_take,List.length_nil,this.1,this.2.1,this.2.2.1,this.2.2.2,hn];omega
       have D:=U rfl;have H:=D.1;have J:=D.2;have N:(aE true).getD j 0=(aE true).getD (j) 0:=by rfl
       rw[<-N]at J;have K:=dS (c:=true) (j:=j) B;have Z:Hid (∀W,af b W->W.cell? (X.add j)=some (.int .i64 ((aE true).getD j 0))):=λW l=>a3.out W l _ B;simp only[bD,Bool.false_eq_true,if_false,if_true]at H J K;generalize(aE true).getD j 0=E at*;have b1:-5<=E:=oO;have b2:E<=5:=oO;have b3:(C:Int)+5=(x:Int):=oO;clear H;clear P U m V D L N K;have c5:=Z.out _ a.out.B;obtain⟨ad,al,am⟩:=a4.out _ a.out.B;generalize aX C true++(bH C true).take j=Y at*;go_wp2_with(at_builtin;refine aY (ah a.out.O (ar _ _)) (Nat.le_trans a.out.B.size oS) rfl _ _ rfl rfl ⟨wr.heap.size,0,none⟩ 1 1 [(x,y)] rfl rfl (cn wr [(x,y)] _) (by have:=G.out;omega) ?_;intro v6 F o hg b4;have t:=Lib.hid (a.out.grow (ar _ _) o hg);clear o hg b4)
       first|exact⟨⟨j+1,by omega,by go_num,by show aL _ _ _ _;rw[M.out];exact t.out⟩,by simp[intOf];omega⟩|exact⟨⟨_,_,_,_,_,_,_,_,_,_,_,_,_,_,_,_,_,_,⟨j+1,by omega,by go_num,by show aL _ _ _ _;rw[M.out];exact t.out⟩,rfl⟩,by show 7-(intOf (.int .i64 ((j:Int)+1))).toNat<7-(intOf (.int .i64 (j:Int))).toNat;simp[intOf];omega⟩
      ·obtain rfl:j=7:=oO;have a6:∀i W,Hid (aL b W i (aX C true++(bH C true).take 7))->Hid (aL b W i (aX C true++bH C true++(cI C true).take 0)):=λi W h=>by show aL _ _ _ _;have m:=h.out;rw[List.take_of_length_le (by simp[bH];decide)]at m;simpa using m
       have a6:=a6 _ _ a;clear a;go_wp2;go_loopw [7,78] (λi r wr=>∃j:Nat,j<=7/\r= .int .i64 (j:Int)/\Hid (aL b wr i (aX C true++bH C true++(cI C true).take j))) (λ_ r _=>7-(intOf r).toNat)
       case atStart=>exact⟨0,by omega,rfl,a6.out⟩
       case round=>
        clear a6;obtain⟨j,T,rfl,a⟩:=hrel;by_cases B:j<7
        ·obtain⟨x,y,L,P,U,m,V,bv,bx⟩:=fI C true a2 2 j oO B;have M:Hid (aX C true++bH C true++(cI C true).take (j+1)=(aX C true++bH C true++(cI C true).take j)++[(x,y)]):=by show _=_;rw[dB _ (0,0) (by rw[(bu C true).2.2.1];exact B),<-List.append_assoc];exact congrArg (λp=>_++[p]) L
         have G:Hid ((aX C true++bH C true++(cI C true).take j).length<=100):=by
          show _<=_;have:=bu C true;have hn:(aE true).length=7:=rfl;simp only[List.length_append,List.length_take,List.length_nil,this.1,this.2.1,this.2.2.1,this.2.2.2,hn];omega
         have D:=m rfl;have H:=D.1;have J:=D.2;obtain⟨k,av⟩:∃k,k=7-1-j:=⟨_,rfl⟩;have b7:(6:Int)-(j:Int)=(k:Int):=oO;have a1:k<7:=oO;have d1:(k:Int)<7:=oO;have dy:IntKind.i64.wrap 6=6:=aJ _ oO oO;have d0:IntKind.i64.wrap (6-(j:Int))=(k:Int):=by rw[aJ _ oO oO];omega
         have N:(aE true).getD k 0=(aE true).getD ((aE true).length-1-j) 0:=by rw[av];rfl
         rw[<-N]at H;have K:=dS (c:=true) (j:=k) a1;have Z:Hid (∀W,af b W->W.cell? (X.add k)=some (.int .i64 ((aE true).getD k 0))):=λW l=>a3.out W l _ a1;simp only[bD,Bool.false_eq_true,if_false,if_true]at H J K;generalize(aE true).getD k 0=E at*;have b1:-5<=E:=oO;have b2:E<=5:=oO;have b3:(C:Int)+5=(y:Int):=oO;clear J;clear P U m V D L N K av b7;have a0:Hid (∀W,af b W->(W.cell? ⟨w.heap.size,1,none⟩=some (.bool true)/\W.cell? ⟨w.heap.size,2,none⟩=some (.int .i64 (C:Int))/\W.cell? ⟨w.heap.size,3,none⟩=some (.int .i64 5))/\W.cell? (X.add k)=some (.int .i64 E)):=λW l=>⟨a4.out W l,Z.out W l⟩;have c6:IntKind.i64.wrap (x:Int)=(x:Int):=aJ _ oO oO;have c7:IntKind.i64.wrap (y:Int)=(y:Int):=aJ _ oO oO;have c8:IntKind.i64.wrap ((C:Int)+E)=(x:Int):=by rw[aJ _ oO oO];omega
         have c9:IntKind.i64.wrap ((C:Int)+5)=(y:Int):=by rw[aJ _ oO oO];omega
         obtain⟨dl,dm,e5⟩:=bT a.out.O;subst e5;generalize aX C true++bH C true++(cI C true).take j=Y at*;have b5:Hid (af b wr.drew):=ak a.out.B;go_wp2;refine yO (λW=>af b W) [1,2,3,4,5,6,7,8,9,10,11,12,13,14,15,0,16,17,0,18] b5.out ?_
         repeat refine zO a0.out ?_
         obtain⟨F,Q⟩:∃F,F=wr.drew.alloc (.cells #[.int .i64 (x:Int),.int .i64 (y:Int)] 47):=⟨_,rfl⟩;have S:Hid (Below wr.heap.size wr F):=by show Below _ _ _;rw[Q];exact ae (ak (Below.refl _ _)) _
         obtain⟨lb,ac⟩:∃lb,lb=wr.heap.size:=⟨_,rfl⟩;have b6:Hid (∀j u,(([(x,y)]:List Pt).flatMap eg)[j]?=some u->F.cell? ((⟨lb,0,none⟩:Addr).add j)=some u):=by show∀_ _,_;rw[Q,ac];exact cn wr.drew [(x,y)] _
         refine' zQ (v:= .slice (some ⟨lb,0,none⟩) 1 1) (w':=F) rfl (by rw[Q,ac];go_simp) (ab a.out.B S.out) ?_;clear Q ac;refine' fj (ys:=[(x,y)]) (ah a.out.O S.out) (Nat.le_trans a.out.B.size S.out.size) rfl _ _ rfl rfl rfl rfl b6.out (by have:=G.out;omega) ?_;intro bf bi bo o hg;have t:Hid (aL b bo (.slice bf (Y.length+1) bi) (Y++[(x,y)])):=a.out.grow S.out o hg;clear o hg;refine⟨t.out.B,?_⟩;simp only[yQ,yU,yX,yY]
         repeat refine zO a0.out ?_
         refine ag ?_;go_wp2;first|exact⟨⟨j+1,by omega,by go_num,by show aL _ _ _ _;rw[M.out];exact t.out⟩,by simp[intOf];omega⟩|exact⟨⟨_,_,_,_,_,_,_,_,_,_,_,_,_,_,_,_,_,_,_,_,_,_,_,⟨j+1,by omega,by go_num,by show aL _ _ _ _;rw[M.out];exact t.out⟩,rfl⟩,by show 7-(intOf (.int .i64 ((j:Int)+1))).toNat<7-(intOf (.int .i64 (j:Int))).toNat;simp[intOf];omega⟩
        ·obtain rfl:j=7:=oO;have a7:∀i W,Hid (aL b W i (aX C true++bH C true++(cI C true).take 7))->Hid (aL b W i (aX C true++bH C true++cI C true++(ff C true).take 0)):=λi W h=>by show aL _ _ _ _;have m:=h.out;rw[List.take_of_length_le (by simp[cI];decide)]at m;simpa using m
         have a7:=a7 _ _ a;clear a;go_wp2;go_loopw [7,100] (λi r wr=>∃j:Nat,j<=7/\r= .int .i64 (j:Int)/\Hid (aL b wr i (aX C true++bH C true++cI C true++(ff C true).take j))) (λ_ r _=>7-(intOf r).toNat)
         case atStart=>exact⟨0,by omega,rfl,a7.out⟩
         case round=>
          clear a7;obtain⟨j,T,rfl,a⟩:=hrel;by_cases B:j<7
          ·obtain⟨x,y,L,P,U,m,V,bv,bx⟩:=fI C true a2 3 j oO B;have M:Hid (aX C true++bH C true++cI C true++(ff C true).take (j+1)=(aX C true++bH C true++cI C true++(ff C true).take j)++[(x,y)]):=by show _=_;rw[dB _ (0,0) (by rw[(bu C true).2.2.2];exact B),<-List.append_assoc];exact congrArg (λp=>_++[p]) L
           have G:Hid ((aX C true++bH C true++cI C true++(ff C true).take j).length<=100):=by
            show _<=_;have:=bu C true;have hn:(aE true).length=7:=rfl;simp only[List.length_append,List.length_take,List.length_nil,this.1,this.2.1,this.2.2.1,this.2.2.2,hn];omega
           have D:=V rfl;have H:=D.1;have J:=D.2;obtain⟨k,av⟩:∃k,k=7-1-j:=⟨_,rfl⟩;have b7:(6:Int)-(j:Int)=(k:Int):=oO;have a1:k<7:=oO;have d1:(k:Int)<7:=oO;have dy:IntKind.i64.wrap 6=6:=aJ _ oO oO;have d0:IntKind.i64.wrap (6-(j:Int))=(k:Int):=by rw[aJ _ oO oO];omega
           have N:(aE true).getD k 0=(aE true).getD ((aE true).length-1-j) 0:=by rw[av];rfl
           rw[<-N]at J;have K:=dS (c:=true) (j:=k) a1;have Z:Hid (∀W,af b W->W.cell? (X.add k)=some (.int .i64 ((aE true).getD k 0))):=λW l=>a3.out W l _ a1;simp only[bD,Bool.false_eq_true,if_false,if_true]at H J K;generalize(aE true).getD k 0=E at*;have b1:-5<=E:=oO;have b2:E<=5:=oO;have b3:(C:Int)-5=(x:Int):=oO;clear H;clear P U m V D L N K av b7;have a0:Hid (∀W,af b W->(W.cell? ⟨w.heap.size,1,none⟩=some (.bool true)/\W.cell? ⟨w.heap.size,2,none⟩=some (.int .i64 (C:Int))/\W.cell? ⟨w.heap.size,3,none⟩=some (.int .i64 5))/\W.cell? (X.add k)=some (.int .i64 E)):=λW l=>⟨a4.out W l,Z.out W l⟩;have c6:IntKind.i64.wrap (x:Int)=(x:Int):=aJ _ oO oO;have c7:IntKind.i64.wrap (y:Int)=(y:Int):=aJ _ oO oO;have c8:IntKind.i64.wrap ((C:Int)-5)=(x:Int):=by rw[aJ _ oO oO];omega
           have c9:IntKind.i64.wrap ((C:Int)+E)=(y:Int):=by rw[aJ _ oO oO];omega
           obtain⟨dl,dm,e5⟩:=bT a.out.O;subst e5;generalize aX C true++bH C true++cI C true++(ff C true).take j=Y at*;have b5:Hid (af b wr.drew):=ak a.out.B;go_wp2;refine yO (λW=>af b W) [1,2,3,4,5,6,7,8,9,10,11,12,13,14,15,0,16,17,0,18] b5.out ?_
           repeat refine zO a0.out ?_
           obtain⟨F,Q⟩:∃F,F=wr.drew.alloc (.cells #[.int .i64 (x:Int),.int .i64 (y:Int)] 47):=⟨_,rfl⟩;have S:Hid (Below wr.heap.size wr F):=by show Below _ _ _;rw[Q];exact ae (ak (Below.refl _ _)) _
           obtain⟨lb,ac⟩:∃lb,lb=wr.heap.size:=⟨_,rfl⟩;have b6:Hid (∀j u,(([(x,y)]:List Pt).flatMap eg)[j]?=some u->F.cell? ((⟨lb,0,none⟩:Addr).add j)=some u):=by show∀_ _,_;rw[Q,ac];exact cn wr.drew [(x,y)] _
           refine' zQ (v:= .slice (some ⟨lb,0,none⟩) 1 1) (w':=F) rfl (by rw[Q,ac];go_simp) (ab a.out.B S.out) ?_;clear Q ac;refine' fj (ys:=[(x,y)]) (ah a.out.O S.out) (Nat.le_trans a.out.B.size S.out.size) rfl _ _ rfl rfl rfl rfl b6.out (by have:=G.out;omega) ?_;intro bf bi bo o hg;have t:Hid (aL b bo (.slice bf (Y.length+1) bi) (Y++[(x,y)])):=a.out.grow S.out o hg;clear o hg;refine⟨t.out.B,?_⟩;simp only[yQ,yU,yX,yY]
           repeat refine zO a0.out ?_
           refine ag ?_;go_wp2;first|exact⟨⟨j+1,by omega,by go_num,by show aL _ _ _ _;rw[M.out];exact t.out⟩,by simp[intOf];omega⟩|exact⟨⟨_,_,_,_,_,_,_,_,_,_,_,_,_,_,_,_,_,_,_,_,_,_,_,⟨j+1,by omega,by go_num,by show aL _ _ _ _;rw[M.out];exact t.out⟩,rfl⟩,by show 7-(intOf (.int .i64 ((j:Int)+1))).toNat<7-(intOf (.int .i64 (j:Int))).toNat;simp[intOf];omega⟩
          ·obtain rfl:j=7:=oO;have a8:∀i W,Hid (aL b W i (aX C true++bH C true++cI C true++(ff C true).take 7))->Hid (aL b W i (dc C true)):=λi W h=>by show aL _ _ _ _;have m:=h.out;rw[List.take_of_length_le (by simp[ff];decide)]at m;rw[lK];exact m
           have a8:=a8 _ _ a;clear a;go_wp2;go_ret;exact⟨_,rfl,(ee.bU a8.out.O).mono (ab cg.out bt.out).size,ab (ab cg.out bt.out) a8.out.B⟩
theorem vy (s C:Nat) (w:World) (a2:7<=C) (d4:C<=100000000):Calls Tryz.prog 43 #[fi s false C 7] w λe w'=>∃v,e= .returned v/\ee w.heap.size w' v (dc C false)/\Below w.heap.size w w':=by
 obtain⟨co,cp,c8,c9,dl⟩:=info_parts nJ;obtain⟨cq,V,dm,dn,ds⟩:=info_parts dd;obtain⟨P,ap⟩:∃P,P=w.alloc (.cells #[.int .i64 (s:Int),.bool false,.int .i64 (C:Int),.int .i64 7] 71):=⟨_,rfl⟩;have b9:Hid (Below w.heap.size w P):=by show Below _ _ _;rw[ap];exact ar _ _
 have bq:Hid (aa P w.heap.size #[.int .i64 (s:Int),.bool false,.int .i64 (C:Int),.int .i64 7] 71):=by show aa _ _ _ _;rw[ap];exact aa.new _ _ _ _ oS
 have a9:Hid (∀W,af P W->W.cell? ⟨w.heap.size,1,none⟩=some (.bool false)/\W.cell? ⟨w.heap.size,2,none⟩=some (.int .i64 (C:Int))/\W.cell? ⟨w.heap.size,3,none⟩=some (.int .i64 7)):=λW l=>⟨(bq.out.below l).cell 1 _ rfl,(bq.out.below l).cell 2 _ rfl,(bq.out.below l).cell 3 _ rfl⟩;have ca:Hid (OG vI 3 P P (.slice none 0 0) (gC false 0)):=OG.start _ _;obtain⟨ad,al,am⟩:=a9.out _ (Below.refl _ _);rw[ap]at ad al am;go_enter Tryz.func43,Tryz.ntmps43;go_wp2;rw[<-ap];clear ad al am ap;go_loopw [3,4] (λi o wr=>∃g:Nat,g<=11/\o= .int .i64 (-5+(g:Int))/\Hid (OG vI 3 P wr i (gC false g))) (λ_ o _=>14-(intOf o+7).toNat)
 case atStart=>exact⟨0,by omega,rfl,ca.out⟩
 case round=>
  clear ca;obtain⟨g,cr,rfl,a⟩:=hrel;obtain⟨ad,al,am⟩:=a9.out _ a.out.B;have bb:=Lib.hid (yj false g);by_cases r:g<11
  ·have d5:(-5:Int)+(g:Int)<=5:=oO;have O:Hid ((gC false g).length<=100):=by show _<=_;have:=uk false g;omega
   by_cases N:g=5
   ·have bd:Hid (gC false (g+1)=gC false g):=by show _=_;rw[bb.out,N];decide
    have z:((-5:Int)+(g:Int)==0)=true:=by rw[beq_iff_eq];omega
    have cs:((-5:Int)+(g:Int)!=0)=false:=by rw[bne,z];rfl
    have cv:(-5:Int)+(g:Int)=0:=oO;go_wp2;exact⟨⟨g+1,by omega,by go_num,by show OG _ _ _ _ _ _;rw[bd.out];exact a.out⟩,by simp[intOf];omega⟩
   ·have bd:Hid (gC false (g+1)=gC false g++[-5+(g:Int)]):=by show _=_;rw[bb.out,if_pos (by simp[bD];omega)];rfl
    have z:((-5:Int)+(g:Int)==0)=false:=by rw[beq_eq_false_iff_ne];omega
    have cs:((-5:Int)+(g:Int)!=0)=true:=by rw[bne,z];rfl
    have cv:¬((-5:Int)+(g:Int)=0):=oO;go_wp2_with(at_builtin;refine aD (f:=vI) (d:=0) IW rfl _ _ _ rfl P.heap.size 3 cq _ 8 Tryz.underlying64 V dm dn ds rfl _ (gC false g).length (gC false g) rfl (ah a.out.O (ar _ _)) (some ⟨wr.heap.size,0,none⟩) 1 1 [-5+(g:Int)] rfl rfl (RG.one _ _ _ _ rfl) (by have:=O.out;unfold maxLen;omega) (by have:=O.out;omega) (by have:=a.out.B.size;simp;omega) ?_;intro d1 d2 t hg;have B:=Lib.hid (a.out.grow (ar _ _) t hg);clear t hg)
    exact⟨⟨g+1,by omega,by go_num,by show OG _ _ _ _ _ _;rw[bd.out];exact B.out⟩,by simp[intOf];omega⟩
  ·obtain rfl:g=11:=oO;have d6:¬((-5:Int)+((11:Nat):Int)<=5):=oO;have bs:=SG.bU (d:=0) a.out.O;rw[show gC false 11=aE false from B6 false]at bs;have cb:=Lib.hid bs;clear bs;have bt:=Lib.hid a.out.B;clear a bb cr r;obtain⟨b,rfl⟩:∃b:World,b=wr:=⟨_,rfl⟩;obtain⟨A,n,d3,rfl,be⟩:=cb.out.parts;have ce:=Lib.hid be;have hn:n=10:=be.hn;subst hn;clear be cb;obtain⟨X,rfl,ck,cg⟩:=ce.out.rd oD;have a3:Hid (∀W,af b W->∀j:Nat,j<10->W.cell? (X.add j)=some (.int .i64 ((aE false).getD j 0))):=λW l j V=>(l.cell (by rw[aV];exact ck)).trans (cg j (by show j<(aE false).length;exact V));have a4:Hid (∀W,af b W->W.cell? ⟨w.heap.size,1,none⟩=some (.bool false)/\W.cell? ⟨w.heap.size,2,none⟩=some (.int .i64 (C:Int))/\W.cell? ⟨w.heap.size,3,none⟩=some (.int .i64 7)):=λW l=>a9.out W (ab bt.out l);clear ck cg ce;go_wp2_with(at_make;refine wpList_make_own _ rfl _ _ _ rfl b.heap.size 47 co _ 2 Tryz.underlying40 cp c8 c9 .i64 .i64 _ 40 rfl rfl (by first|rfl|omega) (by rw[dl];omega) oM (Nat.le_refl _) ?_;intro b8 t hg;have ch:Hid (Below b.heap.size b b8):=(Below.refl _ _).grown hg (Nat.le_refl _) (λq hq=>by cases hq);have ci:Hid (aL b b8 (.slice (some ⟨b.heap.size,0,none⟩) 0 40) ([]++(aX C false).take 0)):=⟨ch.out,t⟩;clear t hg ad al am)
   clear ch;go_loopw [7,43] (λi o wr=>∃j:Nat,j<=10/\o= .int .i64 (j:Int)/\Hid (aL b wr i ([]++(aX C false).take j))) (λ_ o _=>10-(intOf o).toNat)
   case atStart=>exact⟨0,by omega,rfl,ci.out⟩
   case round=>
    clear ci;obtain⟨j,V,rfl,a⟩:=hrel;by_cases r:j<10
    ·obtain⟨x,y,K,N,T,m,U,bv,bx⟩:=fI C false a2 0 j oO r;have L:Hid ([]++(aX C false).take (j+1)=([]++(aX C false).take j)++[(x,y)]):=by show _=_;rw[dB _ (0,0) (by rw[(bu C false).1];exact r),<-List.append_assoc];exact congrArg (λp=>_++[p]) K
     have O:Hid (([]++(aX C false).take j).length<=100):=by
      show _<=_;have:=bu C false;have hn:(aE false).length=10:=rfl;simp only[List.length_append,List.length_take,List.length_nil,this.1,this.2.1,this.2.2.1,this.2.2.2,hn];omega
     have D:=N rfl;have G:=D.1;have H:=D.2;have M:(aE false).getD j 0=(aE false).getD (j) 0:=by rfl
     rw[<-M]at G;have J:=dS (c:=false) (j:=j) r;have Z:Hid (∀W,af b W->W.cell? (X.add j)=some (.int .i64 ((aE false).getD j 0))):=λW l=>a3.out W l _ r;simp only[bD,Bool.false_eq_true,if_false,if_true]at G H J;generalize(aE false).getD j 0=E at*;have b1:-7<=E:=oO;have b2:E<=7:=oO;have b3:(C:Int)-7=(y:Int):=oO;clear H;clear N T m U D K M J;have cx:=Z.out _ a.out.B;obtain⟨ad,al,am⟩:=a4.out _ a.out.B;generalize[]++(aX C false).take j=Y at*;go_wp2_with(at_builtin;refine aY (ah a.out.O (ar _ _)) (Nat.le_trans a.out.B.size oS) rfl _ _ rfl rfl ⟨wr.heap.size,0,none⟩ 1 1 [(x,y)] rfl rfl (cn wr [(x,y)] _) (by have:=O.out;omega) ?_;intro v6 F t hg b4;have B:=Lib.hid (a.out.grow (ar _ _) t hg);clear t hg b4)
     first|exact⟨⟨j+1,by omega,by go_num,by show aL _ _ _ _;rw[L.out];exact B.out⟩,by simp[intOf];omega⟩|exact⟨⟨_,_,_,_,_,_,_,_,_,_,_,_,_,_,_,_,_,_,_,_,_,_,_,⟨j+1,by omega,by go_num,by show aL _ _ _ _;rw[L.out];exact B.out⟩,rfl⟩,by show 10-(intOf (.int .i64 ((j:Int)+1))).toNat<10-(intOf (.int .i64 (j:Int))).toNat;simp[intOf];omega⟩
    ·obtain rfl:j=10:=oO;have a5:∀i W,Hid (aL b W i ([]++(aX C false).take 10))->Hid (aL b W i (aX C false++(bH C false).take 0)):=λi W h=>by show aL _ _ _ _;have m:=h.out;rw[List.take_of_length_le (by simp[aX];decide)]at m;simpa using m
     have a5:=a5 _ _ a;clear a;go_wp2;go_loopw [7,61] (λi o wr=>∃j:Nat,j<=10/\o= .int .i64 (j:Int)/\Hid (aL b wr i (aX C false++(bH C false).take j))) (λ_ o _=>10-(intOf o).toNat)
     case atStart=>exact⟨0,by omega,rfl,a5.out⟩
     case round=>
      clear a5;obtain⟨j,V,rfl,a⟩:=hrel;by_cases r:j<10
      ·obtain⟨x,y,K,N,T,m,U,bv,bx⟩:=fI C false a2 1 j oO r;have L:Hid (aX C false++(bH C false).take (j+1)=(aX C false++(bH C false).take j)++[(x,y)]):=by show _=_;rw[dB _ (0,0) (by rw[(bu C false).2.1];exact r),<-List.append_assoc];exact congrArg (λp=>_++[p]) K
       have O:Hid ((aX C false++(bH C false).take j).length<=100):=by
        show _<=_;have:=bu C false;have hn:(aE false).length=10:=rfl;simp only[List.length_append,List.length_take,List.length_nil,this.1,this.2.1,this.2.2.1,this.2.2.2,hn];omega
       have D:=T rfl;have G:=D.1;have H:=D.2;have M:(aE false).getD j 0=(aE false).getD (j) 0:=by rfl
       rw[<-M]at H;have J:=dS (c:=false) (j:=j) r;have Z:Hid (∀W,af b W->W.cell? (X.add j)=some (.int .i64 ((aE false).getD j 0))):=λW l=>a3.out W l _ r;simp only[bD,Bool.false_eq_true,if_false,if_true]at G H J;generalize(aE false).getD j 0=E at*;have b1:-7<=E:=oO;have b2:E<=7:=oO;have b3:(C:Int)+7=(x:Int):=oO;clear G;clear N T m U D K M J;have cx:=Z.out _ a.out.B;obtain⟨ad,al,am⟩:=a4.out _ a.out.B;generalize aX C false++(bH C false).take j=Y at*;go_wp2_with(at_builtin;refine aY (ah a.out.O (ar _ _)) (Nat.le_trans a.out.B.size oS) rfl _ _ rfl rfl ⟨wr.heap.size,0,none⟩ 1 1 [(x,y)] rfl rfl (cn wr [(x,y)] _) (by have:=O.out;omega) ?_;intro v6 F t hg b4;have B:=Lib.hid (a.out.grow (ar _ _) t hg);clear t hg b4)
       first|exact⟨⟨j+1,by omega,by go_num,by show aL _ _ _ _;rw[L.out];exact B.out⟩,by simp[intOf];omega⟩|exact⟨⟨_,_,_,_,_,_,_,_,_,_,_,_,_,_,_,_,_,_,⟨j+1,by omega,by go_num,by show aL _ _ _ _;rw[L.out];exact B.out⟩,rfl⟩,by show 10-(intOf (.int .i64 ((j:Int)+1))).toNat<10-(intOf (.int .i64 (j:Int))).toNat;simp[intOf];omega⟩
      ·obtain rfl:j=10:=oO;have a6:∀i W,Hid (aL b W i (aX C false++(bH C false).take 10))->Hid (aL b W i (aX C false++bH C false++(cI C false).take 0)):=λi W h=>by show aL _ _ _ _;have m:=h.out;rw[List.take_of_length_le (by simp[bH];decide)]at m;simpa using m
       have a6:=a6 _ _ a;clear a;go_wp2;go_loopw [7,78] (λi o wr=>∃j:Nat,j<=10/\o= .int .i64 (j:Int)/\Hid (aL b wr i (aX C false++bH C false++(cI C false).take j))) (λ_ o _=>10-(intOf o).toNat)
       case atStart=>exact⟨0,by omega,rfl,a6.out⟩
       case round=>
        clear a6;obtain⟨j,V,rfl,a⟩:=hrel;by_cases r:j<10
        ·obtain⟨x,y,K,N,T,m,U,bv,bx⟩:=fI C false a2 2 j oO r;have L:Hid (aX C false++bH C false++(cI C false).take (j+1)=(aX C false++bH C false++(cI C false).take j)++[(x,y)]):=by show _=_;rw[dB _ (0,0) (by rw[(bu C false).2.2.1];exact r),<-List.append_assoc];exact congrArg (λp=>_++[p]) K
         have O:Hid ((aX C false++bH C false++(cI C false).take j).length<=100):=by
          show _<=_;have:=bu C false;have hn:(aE false).length=10:=rfl;simp only[List.length_append,List.length_take,List.length_nil,this.1,this.2.1,this.2.2.1,this.2.2.2,hn];omega
         have D:=m rfl;have G:=D.1;have H:=D.2;obtain⟨k,av⟩:∃k,k=10-1-j:=⟨_,rfl⟩;have b7:(9:Int)-(j:Int)=(k:Int):=oO;have a1:k<10:=oO;have d0:(k:Int)<10:=oO;have dx:IntKind.i64.wrap 9=9:=aJ _ oO oO;have dy:IntKind.i64.wrap (9-(j:Int))=(k:Int):=by rw[aJ _ oO oO];omega
         have M:(aE false).getD k 0=(aE false).getD ((aE false).length-1-j) 0:=by rw[av];rfl
         rw[<-M]at G;have J:=dS (c:=false) (j:=k) a1;have Z:Hid (∀W,af b W->W.cell? (X.add k)=some (.int .i64 ((aE false).getD k 0))):=λW l=>a3.out W l _ a1;simp only[bD,Bool.false_eq_true,if_false,if_true]at G H J;generalize(aE false).getD k 0=E at*;have b1:-7<=E:=oO;have b2:E<=7:=oO;have b3:(C:Int)+7=(y:Int):=oO;clear H;clear N T m U D K M J av b7;have a0:Hid (∀W,af b W->(W.cell? ⟨w.heap.size,1,none⟩=some (.bool false)/\W.cell? ⟨w.heap.size,2,none⟩=some (.int .i64 (C:Int))/\W.cell? ⟨w.heap.size,3,none⟩=some (.int .i64 7))/\W.cell? (X.add k)=some (.int .i64 E)):=λW l=>⟨a4.out W l,Z.out W l⟩;have c2:IntKind.i64.wrap (x:Int)=(x:Int):=aJ _ oO oO;have c3:IntKind.i64.wrap (y:Int)=(y:Int):=aJ _ oO oO;have c4:IntKind.i64.wrap ((C:Int)+E)=(x:Int):=by rw[aJ _ oO oO];omega
         have c5:IntKind.i64.wrap ((C:Int)+7)=(y:Int):=by rw[aJ _ oO oO];omega
         obtain⟨c6,c7,e5⟩:=bT a.out.O;subst e5;generalize aX C false++bH C false++(cI C false).take j=Y at*;have b5:Hid (af b wr.drew):=ak a.out.B;go_wp2;refine yO (λW=>af b W) [1,2,3,4,5,6,7,8,9,10,11,12,13,14,15,0,16,17,0,18] b5.out ?_
         repeat refine zO a0.out ?_
         obtain⟨F,Q⟩:∃F,F=wr.drew.alloc (.cells #[.int .i64 (x:Int),.int .i64 (y:Int)] 47):=⟨_,rfl⟩;have S:Hid (Below wr.heap.size wr F):=by show Below _ _ _;rw[Q];exact ae (ak (Below.refl _ _)) _
         obtain⟨lb,ac⟩:∃lb,lb=wr.heap.size:=⟨_,rfl⟩;have b6:Hid (∀j u,(([(x,y)]:List Pt).flatMap eg)[j]?=some u->F.cell? ((⟨lb,0,none⟩:Addr).add j)=some u):=by show∀_ _,_;rw[Q,ac];exact cn wr.drew [(x,y)] _
         refine' zQ (v:= .slice (some ⟨lb,0,none⟩) 1 1) (w':=F) rfl (by rw[Q,ac];go_simp) (ab a.out.B S.out) ?_;clear Q ac;refine' fj (ys:=[(x,y)]) (ah a.out.O S.out) (Nat.le_trans a.out.B.size S.out.size) rfl _ _ rfl rfl rfl rfl b6.out (by have:=O.out;omega) ?_;intro bf bi bo t hg;have B:Hid (aL b bo (.slice bf (Y.length+1) bi) (Y++[(x,y)])):=a.out.grow S.out t hg;clear t hg;refine⟨B.out.B,?_⟩;simp only[yQ,yU,yX,yY]
         repeat refine zO a0.out ?_
         refine ag ?_;go_wp2;first|exact⟨⟨j+1,by omega,by go_num,by show aL _ _ _ _;rw[L.out];exact B.out⟩,by simp[intOf];omega⟩|exact⟨⟨_,_,_,_,_,_,_,_,_,_,_,_,_,_,_,_,_,_,_,_,_,_,_,⟨j+1,by omega,by go_num,by show aL _ _ _ _;rw[L.out];exact B.out⟩,rfl⟩,by show 10-(intOf (.int .i64 ((j:Int)+1))).toNat<10-(intOf (.int .i64 (j:Int))).toNat;simp[intOf];omega⟩
        ·obtain rfl:j=10:=oO;have a7:∀i W,Hid (aL b W i (aX C false++bH C false++(cI C false).take 10))->Hid (aL b W i (aX C false++bH C false++cI C false++(ff C false).take 0)):=λi W h=>by show aL _ _ _ _;have m:=h.out;rw[List.take_of_length_le (by simp[cI];decide)]at m;simpa using m
         have a7:=a7 _ _ a;clear a;go_wp2;go_loopw [7,100] (λi o wr=>∃j:Nat,j<=10/\o= .int .i64 (j:Int)/\Hid (aL b wr i (aX C false++bH C false++cI C false++(ff C false).take j))) (λ_ o _=>10-(intOf o).toNat)
         case atStart=>exact⟨0,by omega,rfl,a7.out⟩
         case round=>
          clear a7;obtain⟨j,V,rfl,a⟩:=hrel;by_cases r:j<10
          ·obtain⟨x,y,K,N,T,m,U,bv,bx⟩:=fI C false a2 3 j oO r;have L:Hid (aX C false++bH C false++cI C false++(ff C false).take (j+1)=(aX C false++bH C false++cI C false++(ff C false).take j)++[(x,y)]):=by show _=_;rw[dB _ (0,0) (by rw[(bu C false).2.2.2];exact r),<-List.append_assoc];exact congrArg (λp=>_++[p]) K
           have O:Hid ((aX C false++bH C false++cI C false++(ff C false).take j).length<=100):=by
            show _<=_;have:=bu C false;have hn:(aE false).length=10:=rfl;simp only[List.length_append,List.length_take,List.length_nil,this.1,this.2.1,this.2.2.1,this.2.2.2,hn];omega
           have D:=U rfl;have G:=D.1;have H:=D.2;obtain⟨k,av⟩:∃k,k=10-1-j:=⟨_,rfl⟩;have b7:(9:Int)-(j:Int)=(k:Int):=oO;have a1:k<10:=oO;have d0:(k:Int)<10:=oO;have dx:IntKind.i64.wrap 9=9:=aJ _ oO oO;have dy:IntKind.i64.wrap (9-(j:Int))=(k:Int):=by rw[aJ _ oO oO];omega
           have M:(aE false).getD k 0=(aE false).getD ((aE false).length-1-j) 0:=by rw[av];rfl
           rw[<-M]at H;have J:=dS (c:=false) (j:=k) a1;have Z:Hid (∀W,af b W->W.cell? (X.add k)=some (.int .i64 ((aE false).getD k 0))):=λW l=>a3.out W l _ a1;simp only[bD,Bool.false_eq_true,if_false,if_true]at G H J;generalize(aE false).getD k 0=E at*;have b1:-7<=E:=oO;have b2:E<=7:=oO;have b3:(C:Int)-7=(x:Int):=oO;clear G;clear N T m U D K M J av b7;have a0:Hid (∀W,af b W->(W.cell? ⟨w.heap.size,1,none⟩=some (.bool false)/\W.cell? ⟨w.heap.size,2,none⟩=some (.int .i64 (C:Int))/\W.cell? ⟨w.heap.size,3,none⟩=some (.int .i64 7))/\W.cell? (X.add k)=some (.int .i64 E)):=λW l=>⟨a4.out W l,Z.out W l⟩;have c2:IntKind.i64.wrap (x:Int)=(x:Int):=aJ _ oO oO;have c3:IntKind.i64.wrap (y:Int)=(y:Int):=aJ _ oO oO;have c4:IntKind.i64.wrap ((C:Int)-7)=(x:Int):=by rw[aJ _ oO oO];omega
           have c5:IntKind.i64.wrap ((C:Int)+E)=(y:Int):=by rw[aJ _ oO oO];omega
           obtain⟨c6,c7,e5⟩:=bT a.out.O;subst e5;generalize aX C false++bH C false++cI C false++(ff C false).take j=Y at*;have b5:Hid (af b wr.drew):=ak a.out.B;go_wp2;refine yO (λW=>af b W) [1,2,3,4,5,6,7,8,9,10,11,12,13,14,15,0,16,17,0,18] b5.out ?_
           repeat refine zO a0.out ?_
           obtain⟨F,Q⟩:∃F,F=wr.drew.alloc (.cells #[.int .i64 (x:Int),.int .i64 (y:Int)] 47):=⟨_,rfl⟩;have S:Hid (Below wr.heap.size wr F):=by show Below _ _ _;rw[Q];exact ae (ak (Below.refl _ _)) _
           obtain⟨lb,ac⟩:∃lb,lb=wr.heap.size:=⟨_,rfl⟩;have b6:Hid (∀j u,(([(x,y)]:List Pt).flatMap eg)[j]?=some u->F.cell? ((⟨lb,0,none⟩:Addr).add j)=some u):=by show∀_ _,_;rw[Q,ac];exact cn wr.drew [(x,y)] _
           refine' zQ (v:= .slice (some ⟨lb,0,none⟩) 1 1) (w':=F) rfl (by rw[Q,ac];go_simp) (ab a.out.B S.out) ?_;clear Q ac;refine' fj (ys:=[(x,y)]) (ah a.out.O S.out) (Nat.le_trans a.out.B.size S.out.size) rfl _ _ rfl rfl rfl rfl b6.out (by have:=O.out;omega) ?_;intro bf bi bo t hg;have B:Hid (aL b bo (.slice bf (Y.length+1) bi) (Y++[(x,y)])):=a.out.grow S.out t hg;clear t hg;refine⟨B.out.B,?_⟩;simp only[yQ,yU,yX,yY]
           repeat refine zO a0.out ?_
           refine ag ?_;go_wp2;first|exact⟨⟨j+1,by omega,by go_num,by show aL _ _ _ _;rw[L.out];exact B.out⟩,by simp[intOf];omega⟩|exact⟨⟨_,_,_,_,_,_,_,_,_,_,_,_,_,_,_,_,_,_,_,_,_,_,_,⟨j+1,by omega,by go_num,by show aL _ _ _ _;rw[L.out];exact B.out⟩,rfl⟩,by show 10-(intOf (.int .i64 ((j:Int)+1))).toNat<10-(intOf (.int .i64 (j:Int))).toNat;simp[intOf];omega⟩
          ·obtain rfl:j=10:=oO;have a8:∀i W,Hid (aL b W i (aX C false++bH C false++cI C false++(ff C false).take 10))->Hid (aL b W i (dc C false)):=λi W h=>by show aL _ _ _ _;have m:=h.out;rw[List.take_of_length_le (by simp[ff];decide)]at m;rw[lK];exact m
           have a8:=a8 _ _ a;clear a;go_wp2;go_ret;exact⟨_,rfl,(ee.bU a8.out.O).mono (ab b9.out bt.out).size,ab (ab b9.out bt.out) a8.out.B⟩
theorem vM (L:Nat) (w:World) (o:1<=L) (N:L<=32):Calls Tryz.prog 52 #[.int .i64 L,.bool true] w λe w'=>∃v,e= .returned v/\ee w.heap.size w' v (dc (aP L true) true)/\Below w.heap.size w w':=by
 obtain⟨bs,bt,bx,b1,b2⟩:=info_parts nJ;have V:5<=aP L true:=by have:=(lX (c:=true) o N).1;simp only[bD,Bool.false_eq_true,if_false,if_true]at this;omega
 have b3:aP L true<=100:=by have:=dF (c:=true) N;unfold aP;omega
 have a5:Hid (∀W,Calls Tryz.prog 48 #[.int .i64 L,.bool true] W λe w'=>e= .returned (.int .i64 ((ao L true:Nat):Int))/\w'=W):=λW=>nV L true W N;have b4:=(dF (c:=true) N).1;have b5:=(dF (c:=true) N).2;have be:aP L true=(ao L true-1)/2:=rfl;generalize ao L true=S at*;generalize aP L true=C at*;have e1:((S:Int)-1)/2=(C:Int):=oO;clear be o N;go_enter Tryz.func52,Tryz.ntmps52;go_wp2_with(go_at_call 48;refine(a5.out _).mono ?_;rintro e w1 ⟨rfl,a6⟩;rw[a6];clear a6)
 simp only[e1];clear e1 a5;have a7:Hid (Below w.heap.size w ((w.alloc (.cells #[.int .i64 (-5),.int .i64 (-4),.int .i64 (-3),.int .i64 (-2),.int .i64 (-1),.int .i64 (1),.int .i64 (2),.int .i64 (3),.int .i64 (4),.int .i64 (5)] 3)).alloc (.cells #[.int .i64 (-3),.int .i64 (-2),.int .i64 (-1),.int .i64 (0),.int .i64 (1),.int .i64 (2),.int .i64 (3)] 3))):=ae (ar _ _) _;have ap:Hid (SR vI 0 ((w.alloc (.cells #[.int .i64 (-5),.int .i64 (-4),.int .i64 (-3),.int .i64 (-2),.int .i64 (-1),.int .i64 (1),.int .i64 (2),.int .i64 (3),.int .i64 (4),.int .i64 (5)] 3)).alloc (.cells #[.int .i64 (-3),.int .i64 (-2),.int .i64 (-1),.int .i64 (0),.int .i64 (1),.int .i64 (2),.int .i64 (3)] 3)) (some ⟨w.heap.size+1,0,none⟩) 7 7 (aE true)):=SR.lit (f:=vI) (d:=0) (w.alloc (.cells #[.int .i64 (-5),.int .i64 (-4),.int .i64 (-3),.int .i64 (-2),.int .i64 (-1),.int .i64 (1),.int .i64 (2),.int .i64 (3),.int .i64 (4),.int .i64 (5)] 3)) [-3,-2,-1,0,1,2,3] 3 _ 7 oS rfl oM;generalize bf:(w.alloc (.cells #[.int .i64 (-5),.int .i64 (-4),.int .i64 (-3),.int .i64 (-2),.int .i64 (-1),.int .i64 (1),.int .i64 (2),.int .i64 (3),.int .i64 (4),.int .i64 (5)] 3)).alloc (.cells #[.int .i64 (-3),.int .i64 (-2),.int .i64 (-1),.int .i64 (0),.int .i64 (1),.int .i64 (2),.int .i64 (3)] 3)=k at*;clear bf;obtain⟨ob,a8⟩:∃ob,ob=w.heap.size+1:=⟨_,rfl⟩;rw[<-a8]at ap⊢;clear a8;obtain⟨bv,bi,bd,a9⟩:=ap.out.rd oD;cases bi;have X:Hid (∀W,af k W->∀j:Nat,j<7->W.cell? ((⟨ob,0,none⟩:Addr).add j)=some (.int .i64 ((aE true).getD j 0))):=λW E j O=>(E.cell (by rw[aV];exact bd)).trans (a9 j (by show j<(aE true).length;exact O));have bb:Hid (aL k k (.slice none 0 0) ([]++(aX C true).take 0)):=aL.start _;clear bd a9 ap;go_loopw [8,10] (λg l wr=>∃j:Nat,j<=7/\l= .int .i64 (j:Int)/\Hid (aL k wr g ([]++(aX C true).take j))) (λ_ l _=>7-(intOf l).toNat)
 case atStart=>exact⟨0,by omega,rfl,bb.out⟩
 case round=>
  clear bb;obtain⟨j,O,rfl,a⟩:=hrel;by_cases n:j<7
  ·obtain⟨x,y,z,F,o,i,G,av,a0⟩:=fI C true V 0 j oO n;have A:Hid ([]++(aX C true).take (j+1)=([]++(aX C true).take j)++[(x,y)]):=by show _=_;rw[dB _ (0,0) (by rw[(bu C true).1];exact n),<-List.append_assoc];exact congrArg (λp=>_++[p]) z
   have J:Hid (([]++(aX C true).take j).length<=100):=by
    show _<=_;have:=bu C true;have hn:(aE true).length=7:=rfl;simp only[List.length_append,List.length_take,List.length_nil,this.1,this.2.1,this.2.2.1,this.2.2.2,hn];omega
   have m:=F rfl;have q:=m.1;have r:=m.2;have B:(aE true).getD j 0=(aE true).getD (j) 0:=by rfl
   rw[<-B]at q;have s:=dS (c:=true) (j:=j) n;have K:Hid (∀W,af k W->W.cell? ((⟨ob,0,none⟩:Addr).add j)=some (.int .i64 ((aE true).getD j 0))):=λW E=>X.out W E _ n;simp only[bD,Bool.false_eq_true,if_false,if_true]at q r s;generalize(aE true).getD j 0=t at*;have a1:-5<=t:=oO;have a2:t<=5:=oO;have a3:(C:Int)-5=(y:Int):=oO;clear r;clear F o i G m z B s;have H:=K.out _ a.out.B;rw[add_plain,Nat.zero_add]at H;generalize[]++(aX C true).take j=al at*;go_wp2_with(at_builtin;refine aY (ah a.out.O (ar _ _)) (Nat.le_trans a.out.B.size oS) rfl _ _ rfl rfl ⟨wr.heap.size,0,none⟩ 1 1 [(x,y)] rfl rfl (cn wr [(x,y)] _) (by have:=J.out;omega) ?_;intro v6 am D hg M;have u:=Lib.hid (a.out.grow (ar _ _) D hg);clear D hg M)
   first|exact⟨⟨j+1,by omega,by go_num,by show aL _ _ _ _;rw[A.out];exact u.out⟩,by first|(simp[intOf];done)|(simp[intOf];omega)⟩|exact⟨⟨_,_,_,_,_,_,_,_,_,_,_,_,_,_,_,_,_,_,_,_,⟨j+1,by omega,by go_num,by show aL _ _ _ _;rw[A.out];exact u.out⟩,rfl⟩,by show 7-(intOf (.int .i64 ((j:Int)+1))).toNat<7-(intOf (.int .i64 (j:Int))).toNat;first|(simp[intOf];done)|(simp[intOf];omega)⟩
  ·obtain rfl:j=7:=oO;have Y:∀g W,Hid (aL k W g ([]++(aX C true).take 7))->Hid (aL k W g (aX C true++(bH C true).take 0)):=λg W h=>by show aL _ _ _ _;have i:=h.out;rw[List.take_of_length_le (by simp[aX];decide)]at i;simpa using i
   have Y:=Y _ _ a;clear a;go_wp2;go_loopw [8,11] (λg l wr=>∃j:Nat,j<=7/\l= .int .i64 (j:Int)/\Hid (aL k wr g (aX C true++(bH C true).take j))) (λ_ l _=>7-(intOf l).toNat)
   case atStart=>exact⟨0,by omega,rfl,Y.out⟩
   case round=>
    clear Y;obtain⟨j,O,rfl,a⟩:=hrel;by_cases n:j<7
    ·obtain⟨x,y,z,F,o,i,G,av,a0⟩:=fI C true V 1 j oO n;have A:Hid (aX C true++(bH C true).take (j+1)=(aX C true++(bH C true).take j)++[(x,y)]):=by show _=_;rw[dB _ (0,0) (by rw[(bu C true).2.1];exact n),<-List.append_assoc];exact congrArg (λp=>_++[p]) z
     have J:Hid ((aX C true++(bH C true).take j).length<=100):=by
      show _<=_;have:=bu C true;have hn:(aE true).length=7:=rfl;simp only[List.length_append,List.length_take,List.length_nil,this.1,this.2.1,this.2.2.1,this.2.2.2,hn];omega
     have m:=o rfl;have q:=m.1;have r:=m.2;have B:(aE true).getD j 0=(aE true).getD (j) 0:=by rfl
     rw[<-B]at r;have s:=dS (c:=true) (j:=j) n;have K:Hid (∀W,af k W->W.cell? ((⟨ob,0,none⟩:Addr).add j)=some (.int .i64 ((aE true).getD j 0))):=λW E=>X.out W E _ n;simp only[bD,Bool.false_eq_true,if_false,if_true]at q r s;generalize(aE true).getD j 0=t at*;have a1:-5<=t:=oO;have a2:t<=5:=oO;have a3:(C:Int)+5=(x:Int):=oO;clear q;clear F o i G m z B s;have H:=K.out _ a.out.B;rw[add_plain,Nat.zero_add]at H;generalize aX C true++(bH C true).take j=al at*;go_wp2_with(at_builtin;refine aY (ah a.out.O (ar _ _)) (Nat.le_trans a.out.B.size oS) rfl _ _ rfl rfl ⟨wr.heap.size,0,none⟩ 1 1 [(x,y)] rfl rfl (cn wr [(x,y)] _) (by have:=J.out;omega) ?_;intro v6 am D hg M;have u:=Lib.hid (a.out.grow (ar _ _) D hg);clear D hg M)
     first|exact⟨⟨j+1,by omega,by go_num,by show aL _ _ _ _;rw[A.out];exact u.out⟩,by first|(simp[intOf];done)|(simp[intOf];omega)⟩|exact⟨⟨_,_,_,_,_,_,_,_,_,_,_,_,_,_,_,_,_,_,_,_,⟨j+1,by omega,by go_num,by show aL _ _ _ _;rw[A.out];exact u.out⟩,rfl⟩,by show 7-(intOf (.int .i64 ((j:Int)+1))).toNat<7-(intOf (.int .i64 (j:Int))).toNat;first|(simp[intOf];done)|(simp[intOf];omega)⟩
    ·obtain rfl:j=7:=oO;have Z:∀g W,Hid (aL k W g (aX C true++(bH C true).take 7))->Hid (aL k W g (aX C true++bH C true++(cI C true).take 0)):=λg W h=>by show aL _ _ _ _;have i:=h.out;rw[List.take_of_length_le (by simp[bH];decide)]at i;simpa using i
     have Z:=Z _ _ a;clear a;go_wp2;go_loopw [8,12] (λg l wr=>∃j:Nat,j<=7/\l= .int .i64 (6-(j:Int))/\Hid (aL k wr g (aX C true++bH C true++(cI C true).take j))) (λ_ l _=>(intOf l+1).toNat)
     case atStart=>exact⟨0,by omega,rfl,Z.out⟩
     case round=>
      clear Z;obtain⟨j,O,rfl,a⟩:=hrel;by_cases n:j<7
      ·obtain⟨x,y,z,F,o,i,G,av,a0⟩:=fI C true V 2 j oO n;have A:Hid (aX C true++bH C true++(cI C true).take (j+1)=(aX C true++bH C true++(cI C true).take j)++[(x,y)]):=by show _=_;rw[dB _ (0,0) (by rw[(bu C true).2.2.1];exact n),<-List.append_assoc];exact congrArg (λp=>_++[p]) z
       have J:Hid ((aX C true++bH C true++(cI C true).take j).length<=100):=by
        show _<=_;have:=bu C true;have hn:(aE true).length=7:=rfl;simp only[List.length_append,List.length_take,List.length_nil,this.1,this.2.1,this.2.2.1,this.2.2.2,hn];omega
       have m:=i rfl;have q:=m.1;have r:=m.2;obtain⟨b,P⟩:∃b,b=7-1-j:=⟨_,rfl⟩;have a4:(6:Int)-(j:Int)=(b:Int):=oO;have T:b<7:=oO;have bq:(b:Int)<7:=oO;have U:(6:Int)-((j+1:Nat):Int)=(b:Int)-1:=oO;have Q:=Lib.hid U;clear U;have B:(aE true).getD b 0=(aE true).getD ((aE true).length-1-j) 0:=by rw[P];rfl
       rw[<-B]at q;have s:=dS (c:=true) (j:=b) T;have K:Hid (∀W,af k W->W.cell? ((⟨ob,0,none⟩:Addr).add b)=some (.int .i64 ((aE true).getD b 0))):=λW E=>X.out W E _ T;simp only[bD,Bool.false_eq_true,if_false,if_true]at q r s;generalize(aE true).getD b 0=t at*;have a1:-5<=t:=oO;have a2:t<=5:=oO;have a3:(C:Int)+5=(y:Int):=oO;clear r;clear F o i G m z B s P;have H:=K.out _ a.out.B;rw[add_plain,Nat.zero_add]at H;generalize aX C true++bH C true++(cI C true).take j=al at*;rw[a4];go_wp2_with(at_builtin;refine aY (ah a.out.O (ar _ _)) (Nat.le_trans a.out.B.size oS) rfl _ _ rfl rfl ⟨wr.heap.size,0,none⟩ 1 1 [(x,y)] rfl rfl (cn wr [(x,y)] _) (by have:=J.out;omega) ?_;intro v6 am D hg M;have u:=Lib.hid (a.out.grow (ar _ _) D hg);clear D hg M)
       first|exact⟨⟨j+1,by omega,by rw[Q.out],by show aL _ _ _ _;rw[A.out];exact u.out⟩,by first|(simp[intOf];done)|(simp[intOf];omega)⟩|exact⟨⟨_,_,_,_,_,_,_,_,_,_,_,_,_,_,_,_,_,_,_,⟨j+1,by omega,by rw[Q.out],by show aL _ _ _ _;rw[A.out];exact u.out⟩,rfl⟩,by show(intOf (.int .i64 ((b:Int)-1))+1).toNat<(intOf (.int .i64 (b:Int))+1).toNat;first|(simp[intOf];done)|(simp[intOf];omega)⟩
      ·obtain rfl:j=7:=oO;have bo:¬((0:Int)<=6-((7:Nat):Int)):=oO;have ac:∀g W,Hid (aL k W g (aX C true++bH C true++(cI C true).take 7))->Hid (aL k W g (aX C true++bH C true++cI C true++(ff C true).take 0)):=λg W h=>by show aL _ _ _ _;have i:=h.out;rw[List.take_of_length_le (by simp[cI];decide)]at i;simpa using i
       have ac:=ac _ _ a;clear a;go_wp2;go_loopw [8,13] (λg l wr=>∃j:Nat,j<=7/\l= .int .i64 (6-(j:Int))/\Hid (aL k wr g (aX C true++bH C true++cI C true++(ff C true).take j))) (λ_ l _=>(intOf l+1).toNat)
       case atStart=>exact⟨0,by omega,rfl,ac.out⟩
       case round=>
        clear ac;obtain⟨j,O,rfl,a⟩:=hrel;by_cases n:j<7
        ·obtain⟨x,y,z,F,o,i,G,av,a0⟩:=fI C true V 3 j oO n;have A:Hid (aX C true++bH C true++cI C true++(ff C true).take (j+1)=(aX C true++bH C true++cI C true++(ff C true).take j)++[(x,y)]):=by show _=_;rw[dB _ (0,0) (by rw[(bu C true).2.2.2];exact n),<-List.append_assoc];exact congrArg (λp=>_++[p]) z
         have J:Hid ((aX C true++bH C true++cI C true++(ff C true).take j).length<=100):=by
          show _<=_;have:=bu C true;have hn:(aE true).length=7:=rfl;simp only[List.length_append,List.length_take,List.length_nil,this.1,this.2.1,this.2.2.1,this.2.2.2,hn];omega
         have m:=G rfl;have q:=m.1;have r:=m.2;obtain⟨b,P⟩:∃b,b=7-1-j:=⟨_,rfl⟩;have a4:(6:Int)-(j:Int)=(b:Int):=oO;have T:b<7:=oO;have bq:(b:Int)<7:=oO;have U:(6:Int)-((j+1:Nat):Int)=(b:Int)-1:=oO;have Q:=Lib.hid U;clear U;have B:(aE true).getD b 0=(aE true).getD ((aE true).length-1-j) 0:=by rw[P];rfl
         rw[<-B]at r;have s:=dS (c:=true) (j:=b) T;have K:Hid (∀W,af k W->W.cell? ((⟨ob,0,none⟩:Addr).add b)=some (.int .i64 ((aE true).getD b 0))):=λW E=>X.out W E _ T;simp only[bD,Bool.false_eq_true,if_false,if_true]at q r s;generalize(aE true).getD b 0=t at*;have a1:-5<=t:=oO;have a2:t<=5:=oO;have a3:(C:Int)-5=(x:Int):=oO;clear q;clear F o i G m z B s P;have H:=K.out _ a.out.B;rw[add_plain,Nat.zero_add]at H;generalize aX C true++bH C true++cI C true++(ff C true).take j=al at*;rw[a4];go_wp2_with(at_builtin;refine aY (ah a.out.O (ar _ _)) (Nat.le_trans a.out.B.size oS) rfl _ _ rfl rfl ⟨wr.heap.size,0,none⟩ 1 1 [(x,y)] rfl rfl (cn wr [(x,y)] _) (by have:=J.out;omega) ?_;intro v6 am D hg M;have u:=Lib.hid (a.out.grow (ar _ _) D hg);clear D hg M)
         first|exact⟨⟨j+1,by omega,by rw[Q.out],by show aL _ _ _ _;rw[A.out];exact u.out⟩,by first|(simp[intOf];done)|(simp[intOf];omega)⟩|exact⟨⟨_,_,_,_,_,_,_,_,_,_,_,_,_,_,_,_,_,_,_,⟨j+1,by omega,by rw[Q.out],by show aL _ _ _ _;rw[A.out];exact u.out⟩,rfl⟩,by show(intOf (.int .i64 ((b:Int)-1))+1).toNat<(intOf (.int .i64 (b:Int))+1).toNat;first|(simp[intOf];done)|(simp[intOf];omega)⟩
        ·obtain rfl:j=7:=oO;have bo:¬((0:Int)<=6-((7:Nat):Int)):=oO;have ad:∀g W,Hid (aL k W g (aX C true++bH C true++cI C true++(ff C true).take 7))->Hid (aL k W g (dc C true)):=λg W h=>by show aL _ _ _ _;have i:=h.out;rw[List.take_of_length_le (by simp[ff];decide)]at i;rw[lK];exact i
         have ad:=ad _ _ a;clear a;go_wp2;go_ret;exact⟨_,rfl,(ee.bU ad.out.O).mono a7.out.size,ab a7.out ad.out.B⟩
theorem uN (L:Nat) (w:World) (o:1<=L) (N:L<=32):Calls Tryz.prog 52 #[.int .i64 L,.bool false] w λe w'=>∃v,e= .returned v/\ee w.heap.size w' v (dc (aP L false) false)/\Below w.heap.size w w':=by
 obtain⟨bs,bt,bx,b1,b2⟩:=info_parts nJ;have V:7<=aP L false:=by have:=(lX (c:=false) o N).1;simp only[bD,Bool.false_eq_true,if_false,if_true]at this;omega
 have b3:aP L false<=100:=by have:=dF (c:=false) N;unfold aP;omega
 have a6:Hid (∀W,Calls Tryz.prog 48 #[.int .i64 L,.bool false] W λe w'=>e= .returned (.int .i64 ((ao L false:Nat):Int))/\w'=W):=λW=>nV L false W N;have b4:=(dF (c:=false) N).1;have b5:=(dF (c:=false) N).2;have be:aP L false=(ao L false-1)/2:=rfl;generalize ao L false=S at*;generalize aP L false=C at*;have e1:((S:Int)-1)/2=(C:Int):=oO;clear be o N;go_enter Tryz.func52,Tryz.ntmps52;go_wp2_with(go_at_call 48;refine(a6.out _).mono ?_;rintro e w1 ⟨rfl,a7⟩;rw[a7];clear a7)
 simp only[e1];clear e1 a6;have a8:Hid (Below w.heap.size w (w.alloc (.cells #[.int .i64 (-5),.int .i64 (-4),.int .i64 (-3),.int .i64 (-2),.int .i64 (-1),.int .i64 (1),.int .i64 (2),.int .i64 (3),.int .i64 (4),.int .i64 (5)] 3))):=ar _ _;have av:Hid (SR vI 0 (w.alloc (.cells #[.int .i64 (-5),.int .i64 (-4),.int .i64 (-3),.int .i64 (-2),.int .i64 (-1),.int .i64 (1),.int .i64 (2),.int .i64 (3),.int .i64 (4),.int .i64 (5)] 3)) (some ⟨w.heap.size,0,none⟩) 10 10 (aE false)):=SR.lit (f:=vI) (d:=0) w [-5,-4,-3,-2,-1,1,2,3,4,5] 3 _ 10 rfl rfl oM;generalize bf:w.alloc (.cells #[.int .i64 (-5),.int .i64 (-4),.int .i64 (-3),.int .i64 (-2),.int .i64 (-1),.int .i64 (1),.int .i64 (2),.int .i64 (3),.int .i64 (4),.int .i64 (5)] 3)=k at*;clear bf;obtain⟨ob,X⟩:∃ob,ob=w.heap.size:=⟨_,rfl⟩;rw[<-X]at av;simp only[<-X];have b6:=Lib.hid X;clear X;obtain⟨bv,bi,bd,a9⟩:=av.out.rd oD;cases bi;have Y:Hid (∀W,af k W->∀j:Nat,j<10->W.cell? ((⟨ob,0,none⟩:Addr).add j)=some (.int .i64 ((aE false).getD j 0))):=λW E j O=>(E.cell (by rw[aV];exact bd)).trans (a9 j (by show j<(aE false).length;exact O));have bb:Hid (aL k k (.slice none 0 0) ([]++(aX C false).take 0)):=aL.start _;clear bd a9 av;go_loopw [8,10] (λg l wr=>∃j:Nat,j<=10/\l= .int .i64 (j:Int)/\Hid (aL k wr g ([]++(aX C false).take j))) (λ_ l _=>10-(intOf l).toNat)
 case atStart=>exact⟨0,by omega,rfl,bb.out⟩
 case round=>
  clear bb;obtain⟨j,O,rfl,a⟩:=hrel;by_cases n:j<10
  ·obtain⟨x,y,z,F,o,i,G,a0,a1⟩:=fI C false V 0 j oO n;have A:Hid ([]++(aX C false).take (j+1)=([]++(aX C false).take j)++[(x,y)]):=by show _=_;rw[dB _ (0,0) (by rw[(bu C false).1];exact n),<-List.append_assoc];exact congrArg (λp=>_++[p]) z
   have J:Hid (([]++(aX C false).take j).length<=100):=by
    show _<=_;have:=bu C false;have hn:(aE false).length=10:=rfl;simp only[List.length_append,List.length_take,List.length_nil,this.1,this.2.1,this.2.2.1,this.2.2.2,hn];omega
   have m:=F rfl;have q:=m.1;have r:=m.2;have B:(aE false).getD j 0=(aE false).getD (j) 0:=by rfl
   rw[<-B]at q;have s:=dS (c:=false) (j:=j) n;have K:Hid (∀W,af k W->W.cell? ((⟨ob,0,none⟩:Addr).add j)=some (.int .i64 ((aE false).getD j 0))):=λW E=>Y.out W E _ n;simp only[bD,Bool.false_eq_true,if_false,if_true]at q r s;generalize(aE false).getD j 0=t at*;have a2:-7<=t:=oO;have a3:t<=7:=oO;have a4:(C:Int)-7=(y:Int):=oO;clear r;clear F o i G m z B s;have H:=K.out _ a.out.B;rw[add_plain,Nat.zero_add]at H;generalize[]++(aX C false).take j=am at*;go_wp2_with(at_builtin;refine aY (ah a.out.O (ar _ _)) (Nat.le_trans a.out.B.size oS) rfl _ _ rfl rfl ⟨wr.heap.size,0,none⟩ 1 1 [(x,y)] rfl rfl (cn wr [(x,y)] _) (by have:=J.out;omega) ?_;intro v6 ap D hg M;have u:=Lib.hid (a.out.grow (ar _ _) D hg);clear D hg M)
   first|exact⟨⟨j+1,by omega,by go_num,by show aL _ _ _ _;rw[A.out];exact u.out⟩,by first|(simp[intOf];done)|(simp[intOf];omega)⟩|exact⟨⟨_,_,_,_,_,_,_,_,_,_,_,_,_,_,_,_,_,_,_,_,⟨j+1,by omega,by go_num,by show aL _ _ _ _;rw[A.out];exact u.out⟩,rfl⟩,by show 10-(intOf (.int .i64 ((j:Int)+1))).toNat<10-(intOf (.int .i64 (j:Int))).toNat;first|(simp[intOf];done)|(simp[intOf];omega)⟩
  ·obtain rfl:j=10:=oO;have Z:∀g W,Hid (aL k W g ([]++(aX C false).take 10))->Hid (aL k W g (aX C false++(bH C false).take 0)):=λg W h=>by show aL _ _ _ _;have i:=h.out;rw[List.take_of_length_le (by simp[aX];decide)]at i;simpa using i
   have Z:=Z _ _ a;clear a;go_wp2;go_loopw [8,11] (λg l wr=>∃j:Nat,j<=10/\l= .int .i64 (j:Int)/\Hid (aL k wr g (aX C false++(bH C false).take j))) (λ_ l _=>10-(intOf l).toNat)
   case atStart=>exact⟨0,by omega,rfl,Z.out⟩
   case round=>
    clear Z;obtain⟨j,O,rfl,a⟩:=hrel;by_cases n:j<10
    ·obtain⟨x,y,z,F,o,i,G,a0,a1⟩:=fI C false V 1 j oO n;have A:Hid (aX C false++(bH C false).take (j+1)=(aX C false++(bH C false).take j)++[(x,y)]):=by show _=_;rw[dB _ (0,0) (by rw[(bu C false).2.1];exact n),<-List.append_assoc];exact congrArg (λp=>_++[p]) z
     have J:Hid ((aX C false++(bH C false).take j).length<=100):=by
      show _<=_;have:=bu C false;have hn:(aE false).length=10:=rfl;simp only[List.length_append,List.length_take,List.length_nil,this.1,this.2.1,this.2.2.1,this.2.2.2,hn];omega
     have m:=o rfl;have q:=m.1;have r:=m.2;have B:(aE false).getD j 0=(aE false).getD (j) 0:=by rfl
     rw[<-B]at r;have s:=dS (c:=false) (j:=j) n;have K:Hid (∀W,af k W->W.cell? ((⟨ob,0,none⟩:Addr).add j)=some (.int .i64 ((aE false).getD j 0))):=λW E=>Y.out W E _ n;simp only[bD,Bool.false_eq_true,if_false,if_true]at q r s;generalize(aE false).getD j 0=t at*;have a2:-7<=t:=oO;have a3:t<=7:=oO;have a4:(C:Int)+7=(x:Int):=oO;clear q;clear F o i G m z B s;have H:=K.out _ a.out.B;rw[add_plain,Nat.zero_add]at H;generalize aX C false++(bH C false).take j=am at*;go_wp2_with(at_builtin;refine aY (ah a.out.O (ar _ _)) (Nat.le_trans a.out.B.size oS) rfl _ _ rfl rfl ⟨wr.heap.size,0,none⟩ 1 1 [(x,y)] rfl rfl (cn wr [(x,y)] _) (by have:=J.out;omega) ?_;intro v6 ap D hg M;have u:=Lib.hid (a.out.grow (ar _ _) D hg);clear D hg M)
     first|exact⟨⟨j+1,by omega,by go_num,by show aL _ _ _ _;rw[A.out];exact u.out⟩,by first|(simp[intOf];done)|(simp[intOf];omega)⟩|exact⟨⟨_,_,_,_,_,_,_,_,_,_,_,_,_,_,_,_,_,_,_,_,⟨j+1,by omega,by go_num,by show aL _ _ _ _;rw[A.out];exact u.out⟩,rfl⟩,by show 10-(intOf (.int .i64 ((j:Int)+1))).toNat<10-(intOf (.int .i64 (j:Int))).toNat;first|(simp[intOf];done)|(simp[intOf];omega)⟩
    ·obtain rfl:j=10:=oO;have ac:∀g W,Hid (aL k W g (aX C false++(bH C false).take 10))->Hid (aL k W g (aX C false++bH C false++(cI C false).take 0)):=λg W h=>by show aL _ _ _ _;have i:=h.out;rw[List.take_of_length_le (by simp[bH];decide)]at i;simpa using i
     have ac:=ac _ _ a;clear a;go_wp2;go_loopw [8,12] (λg l wr=>∃j:Nat,j<=10/\l= .int .i64 (9-(j:Int))/\Hid (aL k wr g (aX C false++bH C false++(cI C false).take j))) (λ_ l _=>(intOf l+1).toNat)
     case atStart=>exact⟨0,by omega,rfl,ac.out⟩
     case round=>
      clear ac;obtain⟨j,O,rfl,a⟩:=hrel;by_cases n:j<10
      ·obtain⟨x,y,z,F,o,i,G,a0,a1⟩:=fI C false V 2 j oO n;have A:Hid (aX C false++bH C false++(cI C false).take (j+1)=(aX C false++bH C false++(cI C false).take j)++[(x,y)]):=by show _=_;rw[dB _ (0,0) (by rw[(bu C false).2.2.1];exact n),<-List.append_assoc];exact congrArg (λp=>_++[p]) z
       have J:Hid ((aX C false++bH C false++(cI C false).take j).length<=100):=by
        show _<=_;have:=bu C false;have hn:(aE false).length=10:=rfl;simp only[List.length_append,List.length_take,List.length_nil,this.1,this.2.1,this.2.2.1,this.2.2.2,hn];omega
       have m:=i rfl;have q:=m.1;have r:=m.2;obtain⟨b,P⟩:∃b,b=10-1-j:=⟨_,rfl⟩;have a5:(9:Int)-(j:Int)=(b:Int):=oO;have T:b<10:=oO;have bq:(b:Int)<10:=oO;have U:(9:Int)-((j+1:Nat):Int)=(b:Int)-1:=oO;have Q:=Lib.hid U;clear U;have B:(aE false).getD b 0=(aE false).getD ((aE false).length-1-j) 0:=by rw[P];rfl
       rw[<-B]at q;have s:=dS (c:=false) (j:=b) T;have K:Hid (∀W,af k W->W.cell? ((⟨ob,0,none⟩:Addr).add b)=some (.int .i64 ((aE false).getD b 0))):=λW E=>Y.out W E _ T;simp only[bD,Bool.false_eq_true,if_false,if_true]at q r s;generalize(aE false).getD b 0=t at*;have a2:-7<=t:=oO;have a3:t<=7:=oO;have a4:(C:Int)+7=(y:Int):=oO;clear r;clear F o i G m z B s P;have H:=K.out _ a.out.B;rw[add_plain,Nat.zero_add]at H;generalize aX C false++bH C false++(cI C false).take j=am at*;rw[a5];go_wp2_with(at_builtin;refine aY (ah a.out.O (ar _ _)) (Nat.le_trans a.out.B.size oS) rfl _ _ rfl rfl ⟨wr.heap.size,0,none⟩ 1 1 [(x,y)] rfl rfl (cn wr [(x,y)] _) (by have:=J.out;omega) ?_;intro v6 ap D hg M;have u:=Lib.hid (a.out.grow (ar _ _) D hg);clear D hg M)
       first|exact⟨⟨j+1,by omega,by rw[Q.out],by show aL _ _ _ _;rw[A.out];exact u.out⟩,by first|(simp[intOf];done)|(simp[intOf];omega)⟩|exact⟨⟨_,_,_,_,_,_,_,_,_,_,_,_,_,_,_,_,_,_,_,⟨j+1,by omega,by rw[Q.out],by show aL _ _ _ _;rw[A.out];exact u.out⟩,rfl⟩,by show(intOf (.int .i64 ((b:Int)-1))+1).toNat<(intOf (.int .i64 (b:Int))+1).toNat;first|(simp[intOf];done)|(simp[intOf];omega)⟩
      ·obtain rfl:j=10:=oO;have bo:¬((0:Int)<=9-((10:Nat):Int)):=oO;have ad:∀g W,Hid (aL k W g (aX C false++bH C false++(cI C false).take 10))->Hid (aL k W g (aX C false++bH C false++cI C false++(ff C false).take 0)):=λg W h=>by show aL _ _ _ _;have i:=h.out;rw[List.take_of_length_le (by simp[cI];decide)]at i;simpa using i
       have ad:=ad _ _ a;clear a;go_wp2;go_loopw [8,13] (λg l wr=>∃j:Nat,j<=10/\l= .int .i64 (9-(j:Int))/\Hid (aL k wr g (aX C false++bH C false++cI C false++(ff C false).take j))) (λ_ l _=>(intOf l+1).toNat)
       case atStart=>exact⟨0,by omega,rfl,ad.out⟩
       case round=>
        clear ad;obtain⟨j,O,rfl,a⟩:=hrel;by_cases n:j<10
        ·obtain⟨x,y,z,F,o,i,G,a0,a1⟩:=fI C false V 3 j oO n;have A:Hid (aX C false++bH C false++cI C false++(ff C false).take (j+1)=(aX C false++bH C false++cI C false++(ff C false).take j)++[(x,y)]):=by show _=_;rw[dB _ (0,0) (by rw[(bu C false).2.2.2];exact n),<-List.append_assoc];exact congrArg (λp=>_++[p]) z
         have J:Hid ((aX C false++bH C false++cI C false++(ff C false).take j).length<=100):=by
          show _<=_;have:=bu C false;have hn:(aE false).length=10:=rfl;simp only[List.length_append,List.length_take,List.length_nil,this.1,this.2.1,this.2.2.1,this.2.2.2,hn];omega
         have m:=G rfl;have q:=m.1;have r:=m.2;obtain⟨b,P⟩:∃b,b=10-1-j:=⟨_,rfl⟩;have a5:(9:Int)-(j:Int)=(b:Int):=oO;have T:b<10:=oO;have bq:(b:Int)<10:=oO;have U:(9:Int)-((j+1:Nat):Int)=(b:Int)-1:=oO;have Q:=Lib.hid U;clear U;have B:(aE false).getD b 0=(aE false).getD ((aE false).length-1-j) 0:=by rw[P];rfl
         rw[<-B]at r;have s:=dS (c:=false) (j:=b) T;have K:Hid (∀W,af k W->W.cell? ((⟨ob,0,none⟩:Addr).add b)=some (.int .i64 ((aE false).getD b 0))):=λW E=>Y.out W E _ T;simp only[bD,Bool.false_eq_true,if_false,if_true]at q r s;generalize(aE false).getD b 0=t at*;have a2:-7<=t:=oO;have a3:t<=7:=oO;have a4:(C:Int)-7=(x:Int):=oO;clear q;clear F o i G m z B s P;have H:=K.out _ a.out.B;rw[add_plain,Nat.zero_add]at H;generalize aX C false++bH C false++cI C false++(ff C false).take j=am at*;rw[a5];go_wp2_with(at_builtin;refine aY (ah a.out.O (ar _ _)) (Nat.le_trans a.out.B.size oS) rfl _ _ rfl rfl ⟨wr.heap.size,0,none⟩ 1 1 [(x,y)] rfl rfl (cn wr [(x,y)] _) (by have:=J.out;omega) ?_;intro v6 ap D hg M;have u:=Lib.hid (a.out.grow (ar _ _) D hg);clear D hg M)
         first|exact⟨⟨j+1,by omega,by rw[Q.out],by show aL _ _ _ _;rw[A.out];exact u.out⟩,by first|(simp[intOf];done)|(simp[intOf];omega)⟩|exact⟨⟨_,_,_,_,_,_,_,_,_,_,_,_,_,_,_,_,_,_,_,⟨j+1,by omega,by rw[Q.out],by show aL _ _ _ _;rw[A.out];exact u.out⟩,rfl⟩,by show(intOf (.int .i64 ((b:Int)-1))+1).toNat<(intOf (.int .i64 (b:Int))+1).toNat;first|(simp[intOf];done)|(simp[intOf];omega)⟩
        ·obtain rfl:j=10:=oO;have bo:¬((0:Int)<=9-((10:Nat):Int)):=oO;have al:∀g W,Hid (aL k W g (aX C false++bH C false++cI C false++(ff C false).take 10))->Hid (aL k W g (dc C false)):=λg W h=>by show aL _ _ _ _;have i:=h.out;rw[List.take_of_length_le (by simp[ff];decide)]at i;rw[lK];exact i
         have al:=al _ _ a;clear a;go_wp2;go_ret;exact⟨_,rfl,(ee.bU al.out.O).mono a8.out.size,ab a8.out al.out.B⟩
theorem xC (L:Nat) (c:Bool) (w:World) (a:1<=L) (b:L<=32):Calls Tryz.prog 52 #[.int .i64 L,.bool c] w λe w'=>∃v,e= .returned v/\ee w.heap.size w' v (dc (aP L c) c)/\Below w.heap.size w w':=by
 cases c with
 |true=>exact vM L w a b
 |false=>exact uN L w a b
theorem qM (s C:Nat) (c:Bool) (w:World) (a:bD c<=C) (b:C<=100000000):Calls Tryz.prog 43 #[fi s c C (bD c)] w λe w'=>∃v,e= .returned v/\ee w.heap.size w' v (dc C c)/\Below w.heap.size w w':=by
 cases c with
 |true=>exact xH s C w a b
 |false=>exact vy s C w a b
def rT (L:Int) (c:Bool):Int:=if eB L c=true then 0 else 14
def pR (L:Int) (c:Bool):List Pt:=if eB L c=true then bR L.toNat c else[]
def qf (L:Int) (c:Bool):List Pt:=if eB L c=true then dc (aP L.toNat c) c else[]
def Le (w:World) (L:Int) (c:Bool) (e:Ending) (w':World):Prop:=∃v u,e= .returned (.tuple #[v,u,.int .i64 (rT L c)])/\SP w' v (pR L c)/\SP w' u (qf L c)/\Below w.heap.size w w'
theorem Il (L:Int) (c:Bool) (w:World):Calls Tryz.prog 15 #[.int .i64 L,.bool c] w (Le w L c):=by
 have g:=ep w L c;have j:Hid (∀W,Calls Tryz.prog 29 #[cy L c] W λe w'=>e= .returned (.bool (eB L c))/\Below W.heap.size W w'):=λW=>gw L c W;cases a:eB L c with
 |false=>
  have b:Hid (rT L c=14/\pR L c=[]/\qf L c=[]):=by show _/\_/\_;unfold rT pR qf;rw[a];exact⟨rfl,rfl,rfl⟩
  rw[a]at j;clear a;go_enter Tryz.func15,Tryz.ntmps15;go_wp2_with(go_at_call 29;refine(j.out _).mono ?_;rintro e w1 ⟨rfl,f⟩;have d:=Lib.hid f;clear f;obtain⟨q,r⟩:=g.out _ d.out)
  go_ret3
  exact⟨_,_,by rw[b.out.1];rfl,by rw[b.out.2.1];exact SP.dD _,by rw[b.out.2.2];exact SP.dD _,cN d.out⟩
 |true=>
  obtain⟨k,rfl,z,i,A⟩:=mM a;have b:Hid (rT k c=0/\pR k c=bR k c/\qf k c=dc (aP k c) c):=by show _/\_/\_;unfold rT pR qf;rw[a];exact⟨rfl,rfl,rfl⟩
  have J:=lX (c:=c) z i;have K:=dF (c:=c) i;have B:Hid (∀W,Calls Tryz.prog 46 #[cy k c] W λe w'=>∃v,e= .returned v/\ee W.heap.size w' v (bR k c)/\Below W.heap.size W w'):=λW=>yG k c W i;have M:Hid (∀W,Calls Tryz.prog 36 #[cy k c] W λe w'=>e= .returned (.int .i64 ((ao k c:Nat):Int))/\Below W.heap.size W w'):=λW=>qg k c W i;have D:Hid (∀W,Calls Tryz.prog 39 #[.int .i64 ((ao k c:Nat):Int),.bool c] W λe w'=>e= .returned (fi (ao k c) c (aP k c) (bD c))/\Below W.heap.size W w'):=λW=>r9 (ao k c) c W oO oO;have E:Hid (∀W,Calls Tryz.prog 43 #[fi (ao k c) c (aP k c) (bD c)] W λe w'=>∃v,e= .returned v/\ee W.heap.size w' v (dc (aP k c) c)/\Below W.heap.size W w'):=λW=>qM (ao k c) (aP k c) c W oO oO;rw[a]at j;generalize bR k c=dl at*;generalize dc (aP k c) c=U at*;generalize ao k c=S at*;generalize aP k c=C at*;generalize bD c=V at*;clear a A J K;go_enter Tryz.func15,Tryz.ntmps15;go_wp2_with(go_at_call 29;refine(j.out _).mono ?_;rintro e w1 ⟨rfl,f⟩;have d:=Lib.hid f;clear f;obtain⟨q,r⟩:=g.out _ d.out)
  clear q r;refine yO (af (w.alloc (bM k c))) [1,3,5,0,2,4,6,7,0,8,9,10] (ak d.out) ?_
  repeat refine zO g.out ?_
  refine zZ ?_;refine(B.out _).mono ?_;rintro e w2 ⟨X,rfl,l,s⟩;obtain⟨⟨Y,Z,rfl,-⟩,-⟩:=id l;have N:=Lib.hid l.1;have t:Hid (af (w.alloc (bM k c)) w2):=ab (ak d.out) s;clear l s;refine⟨_,rfl,t.out,jO ?_⟩;refine zZ ?_;refine(M.out _).mono ?_;rintro e F ⟨rfl,m⟩;have O:=Lib.hid (N.out.below m);have u:Hid (af (w.alloc (bM k c)) F):=ab t.out m;clear m;refine⟨_,rfl,u.out,jO ?_⟩;refine zZ ?_;refine(D.out _).mono ?_;rintro e G ⟨rfl,n⟩;have P:=Lib.hid (O.out.below n);have x:Hid (af (w.alloc (bM k c)) G):=ab u.out n;clear n;refine⟨_,rfl,x.out,jO ?_⟩;refine zZ ?_;refine(E.out _).mono ?_;rintro e H ⟨ac,rfl,o,p⟩;obtain⟨⟨ad,al,rfl,-⟩,-⟩:=id o;have Q:=Lib.hid o.1;have T:=Lib.hid (P.out.below p);have y:Hid (af (w.alloc (bM k c)) H):=ab x.out p;clear o p;refine⟨_,rfl,y.out,jO ?_⟩
  repeat refine zO g.out ?_
  refine ag ?_;go_wp2;go_ret3
  exact⟨_,_,by rw[b.out.1];rfl,by rw[b.out.2.1];exact T.out,by rw[b.out.2.2];exact Q.out,cN y.out⟩
end
end Go.Proofs.YtmnlkganmgcpbaaGreatDoor
