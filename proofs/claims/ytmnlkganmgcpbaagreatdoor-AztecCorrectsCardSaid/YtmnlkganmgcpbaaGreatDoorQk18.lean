import Derived.Test.YtmnlkganmgcpbaaGreatDoorQk17
set_option maxRecDepth 100000
set_option maxHeartbeats 4000000
set_option linter.unusedVariables false
set_option linter.unusedSectionVars false
set_option linter.unusedSimpArgs false
namespace Go.Proofs.YtmnlkganmgcpbaaGreatDoor
section
open Go.RowKit
def cI (C:Nat) (c:Bool):List Pt:=(bc c).map λa=>(mv C a,C-aN c)
def dW (C:Nat) (c:Bool):List Pt:=(bc c).map λa=>(C+aN c,mv C a)
def gl (C:Nat) (c:Bool):List Pt:=(bc c).reverse.map λa=>(mv C a,C+aN c)
def lE (C:Nat) (c:Bool):List Pt:=(bc c).reverse.map λa=>(C-aN c,mv C a)
theorem uQ (C:Nat) (c:Bool):cC C c=cI C c++dW C c++gl C c++lE C c:=rfl
theorem nk {α a:Type} (f:α->a) (l:List α) (d:α) (e:a) {j:Nat} (b:j<l.length):(l.map f).getD j e=f (l.getD j d):=by simp[List.getD,b]
theorem BB {α:Type} (l:List α) (d:α) {j:Nat} (a:j<l.length):l.reverse.getD j d=l.getD (l.length-1-j) d:=by
 simp[List.getD,List.getElem?_reverse a]
theorem jl {α:Type} (l:List α) (d:α) {j:Nat} (a:j<l.length):l.take (j+1)=l.take j++[l.getD j d]:=by
 rw[List.take_succ_eq_append_getElem a];simp[List.getD,a]
theorem jH {c:Bool} {j:Nat} (a:j<(bc c).length):-((aN c:Nat):Int)+2<=(bc c).getD j 0/\(bc c).getD j 0+2<=((aN c:Nat):Int):=by
 refine yF ?_;simp only[List.getD,List.getElem?_eq_getElem a,Option.getD_some];exact List.getElem_mem a
theorem dO (C:Nat) (c:Bool):(cI C c).length=(bc c).length/\(dW C c).length=(bc c).length/\(gl C c).length=(bc c).length/\(lE C c).length=(bc c).length:=by
 simp[cI,dW,gl,lE]
abbrev cY (n:Nat) (c:Bool) (C m:Nat):Value:= .agg #[.int .i64 (n:Int),.bool c,.int .i64 (C:Int),.int .i64 (m:Int)]
theorem nx (C:Nat) (c:Bool) (e:aN c<=C) (k j:Nat) (f:k<4) (a:j<(bc c).length):∃x y:Nat,(match k with|0=>cI C c|1=>dW C c|2=>gl C c|_=>lE C c).getD j (0,0)=(x,y)/\
 (k=0->((C:Int)+(bc c).getD j 0=(x:Int)/\(C:Int)-((aN c:Nat):Int)=(y:Int)))/\(k=1->((C:Int)+((aN c:Nat):Int)=(x:Int)/\(C:Int)+(bc c).getD j 0=(y:Int)))/\
 (k=2->((C:Int)+(bc c).getD ((bc c).length-1-j) 0=(x:Int)/\(C:Int)+((aN c:Nat):Int)=(y:Int)))/\(k=3->((C:Int)-((aN c:Nat):Int)=(x:Int)/\(C:Int)+(bc c).getD ((bc c).length-1-j) 0=(y:Int)))/\x<=2* C/\y<=2* C:=by
 have g:=jH a;have d:(bc c).length-1-j<(bc c).length:=oO;have i:=jH d;have b:j<(bc c).reverse.length:=by simpa using a
 obtain rfl|rfl|rfl|rfl:k=0\/k=1\/k=2\/k=3:=oO
 ·refine⟨_,_,nk _ _ 0 _ a,λ_=>?_,λh=>by omega,λh=>by omega,λh=>by omega,?_,?_⟩<;>(try unfold mv)<;>omega
 ·refine⟨_,_,nk _ _ 0 _ a,λh=>by omega,λ_=>?_,λh=>by omega,λh=>by omega,?_,?_⟩<;>(try unfold mv)<;>omega
 ·refine⟨_,_,(nk _ _ 0 _ b).trans (by rw[BB _ _ a]),λh=>by omega,λh=>by omega,λ_=>?_,λh=>by omega,?_,?_⟩<;>(try unfold mv)<;>omega
 ·refine⟨_,_,(nk _ _ 0 _ b).trans (by rw[BB _ _ a]),λh=>by omega,λh=>by omega,λh=>by omega,λ_=>?_,?_,?_⟩<;>(try unfold mv)<;>omega
theorem Cj (n:Nat) (w:World) (c:1<=n) (hn:n<=100000000):Calls Tryz.prog 39 #[.int .i64 n,.bool true] w λe w'=>e= .returned (cY n true ((n-1)/2) 5)/\Below w.heap.size w w':=by
 obtain⟨a,b⟩:∃a,a=(n-1)/2:=⟨_,rfl⟩;have e1:((n:Int)-1)/2=(a:Int):=oO;have d:a<=100000000:=oO;rw[<-b];clear b;go_enter Tryz.func39,Tryz.ntmps39;go_wp2;exact bodyPost_ret (v:=cY n true a 5) (by simp[results,Tryz.results39,go_sem]) rfl ⟨rfl,ah (ax _ _) _⟩
theorem Av (n:Nat) (w:World) (c:1<=n) (hn:n<=100000000):Calls Tryz.prog 39 #[.int .i64 n,.bool false] w λe w'=>e= .returned (cY n false ((n-1)/2) 7)/\Below w.heap.size w w':=by
 obtain⟨a,b⟩:∃a,a=(n-1)/2:=⟨_,rfl⟩;have e1:((n:Int)-1)/2=(a:Int):=oO;have d:a<=100000000:=oO;rw[<-b];clear b;go_enter Tryz.func39,Tryz.ntmps39;go_wp2;exact bodyPost_ret (v:=cY n false a 7) (by simp[results,Tryz.results39,go_sem]) rfl ⟨rfl,ah (ax _ _) _⟩
theorem jN (n:Nat) (c:Bool) (w:World) (a:1<=n) (hn:n<=100000000):Calls Tryz.prog 39 #[.int .i64 n,.bool c] w λe w'=>e= .returned (cY n c ((n-1)/2) (aN c))/\Below w.heap.size w w':=by
 cases c with
 |true=>exact Cj n w a hn
 |false=>exact Av n w a hn
def iH (c:Bool) (a:Nat):List Int:=((List.range a).map λi:Nat=>(2:Int)-((aN c:Nat):Int)+(i:Int)).filter λb=>!(b==0)||c
theorem CI (c:Bool) (a:Nat):iH c (a+1)=if(!((2:Int)-((aN c:Nat):Int)+(a:Int)==0)||c)=true then iH c a++[(2:Int)-((aN c:Nat):Int)+(a:Int)]else iH c a:=by
 unfold iH;rw[List.range_succ,List.map_append,List.filter_append];simp only[List.map_cons,List.map_nil,List.filter_cons,List.filter_nil];split<;>simp
theorem DV (c:Bool):iH c (2* aN c-3)=bc c:=by cases c<;>decide
theorem xJ (c:Bool) (a:Nat):(iH c a).length<=a:=by
 unfold iH;exact Nat.le_trans (List.length_filter_le _ _) oS
theorem Ay (s C:Nat) (w:World) (a1:5<=C) (dx:C<=100000000):Calls Tryz.prog 43 #[cY s true C 5] w λe w'=>∃v,e= .returned v/\fN w.heap.size w' v (cC C true)/\Below w.heap.size w w':=by
 obtain⟨cs,cv,dd,de,dk⟩:=info_parts sW;obtain⟨b6,T,b8,b9,ca⟩:=info_parts dg;obtain⟨O,am⟩:∃O,O=w.alloc (.cells #[.int .i64 (s:Int),.bool true,.int .i64 (C:Int),.int .i64 5] 71):=⟨_,rfl⟩;have cb:Hid (Below w.heap.size w O):=by show Below _ _ _;rw[am];exact ax _ _
 have bo:Hid (aa O w.heap.size #[.int .i64 (s:Int),.bool true,.int .i64 (C:Int),.int .i64 5] 71):=by show aa _ _ _ _;rw[am];exact aa.new _ _ _ _ oS
 have a8:Hid (∀W,af O W->W.cell? ⟨w.heap.size,1,none⟩=some (.bool true)/\W.cell? ⟨w.heap.size,2,none⟩=some (.int .i64 (C:Int))/\W.cell? ⟨w.heap.size,3,none⟩=some (.int .i64 5)):=λW l=>⟨(bo.out.below l).cell 1 _ rfl,(bo.out.below l).cell 2 _ rfl,(bo.out.below l).cell 3 _ rfl⟩;have ce:Hid (OG vI 3 O O (.slice none 0 0) (iH true 0)):=OG.start _ _;obtain⟨ac,ad,al⟩:=a8.out _ (Below.refl _ _);rw[am]at ac ad al;go_enter Tryz.func43,Tryz.ntmps43;go_wp2;rw[<-am];clear ac ad al am;go_loopw [3,4] (λi r wr=>∃g:Nat,g<=7/\r= .int .i64 (-3+(g:Int))/\Hid (OG vI 3 O wr i (iH true g))) (λ_ r _=>10-(intOf r+5).toNat)
 case atStart=>exact⟨0,by omega,rfl,ce.out⟩
 case round=>
  clear ce;obtain⟨g,cx,rfl,a⟩:=hrel;obtain⟨ac,ad,al⟩:=a8.out _ a.out.B;have a9:=Lib.hid (CI true g);by_cases B:g<7
  ·have dy:(-3:Int)+(g:Int)<=3:=oO;have G:Hid ((iH true g).length<=100):=by show _<=_;have:=xJ true g;omega
   by_cases P:g=3
   ·have bb:Hid (iH true (g+1)=iH true g++[0]):=by show _=_;rw[a9.out,P,if_pos oS];rfl
    have cN:(-3:Int)+(g:Int)=0:=oO;go_wp2_with(at_builtin;refine aV (f:=vI) (d:=0) JL rfl _ _ _ rfl O.heap.size 3 b6 _ 8 Tryz.underlying64 T b8 b9 ca rfl _ (iH true g).length (iH true g) rfl (au a.out.O (ax _ _)) (some ⟨wr.heap.size,0,none⟩) 1 1 [0] rfl rfl (RG.one _ _ _ _ rfl) (by have:=G.out;unfold maxLen;omega) (by have:=G.out;omega) (by have:=a.out.B.size;simp;omega) ?_;intro c2 c3 o hg;have t:=Lib.hid (a.out.grow (ax _ _) o hg);clear o hg)
    exact⟨⟨g+1,by omega,by go_num,by show OG _ _ _ _ _ _;rw[bb.out];exact t.out⟩,by simp[intOf];omega⟩
   ·have bb:Hid (iH true (g+1)=iH true g++[-3+(g:Int)]):=by show _=_;rw[a9.out,if_pos oS];rfl
    have z:((-3:Int)+(g:Int)==0)=false:=by rw[beq_eq_false_iff_ne];omega
    have ds:((-3:Int)+(g:Int)!=0)=true:=by rw[bne,z];rfl
    have cN:¬((-3:Int)+(g:Int)=0):=oO;go_wp2_with(at_builtin;refine aV (f:=vI) (d:=0) JL rfl _ _ _ rfl O.heap.size 3 b6 _ 8 Tryz.underlying64 T b8 b9 ca rfl _ (iH true g).length (iH true g) rfl (au a.out.O (ax _ _)) (some ⟨wr.heap.size,0,none⟩) 1 1 [-3+(g:Int)] rfl rfl (RG.one _ _ _ _ rfl) (by have:=G.out;unfold maxLen;omega) (by have:=G.out;omega) (by have:=a.out.B.size;simp;omega) ?_;intro c2 c3 o hg;have t:=Lib.hid (a.out.grow (ax _ _) o hg);clear o hg)
    exact⟨⟨g+1,by omega,by go_num,by show OG _ _ _ _ _ _;rw[bb.out];exact t.out⟩,by simp[intOf];omega⟩
  ·obtain rfl:g=7:=oO;have dz:¬((-3:Int)+((7:Nat):Int)<=3):=oO;have bq:=SG.cd (d:=0) a.out.O;rw[show iH true 7=bc true from DV true]at bq;have ch:=Lib.hid bq;clear bq;have bs:=Lib.hid a.out.B;clear a a9 cx B;obtain⟨b,rfl⟩:∃b:World,b=wr:=⟨_,rfl⟩;obtain⟨A,n,dv,rfl,bd⟩:=ch.out.parts;have ci:=Lib.hid bd;have hn:n=7:=bd.hn;subst hn;clear bd ch;obtain⟨X,rfl,cq,ck⟩:=ci.out.rd oD;have a2:Hid (∀W,af b W->∀j:Nat,j<7->W.cell? (X.add j)=some (.int .i64 ((bc true).getD j 0))):=λW l j T=>(l.cell (by rw[aJ];exact cq)).trans (ck j (by show j<(bc true).length;exact T));have a3:Hid (∀W,af b W->W.cell? ⟨w.heap.size,1,none⟩=some (.bool true)/\W.cell? ⟨w.heap.size,2,none⟩=some (.int .i64 (C:Int))/\W.cell? ⟨w.heap.size,3,none⟩=some (.int .i64 5)):=λW l=>a8.out W (ae bs.out l);clear cq ck ci;go_wp2_with(at_make;refine wpList_make_own _ rfl _ _ _ rfl b.heap.size 47 cs _ 2 Tryz.underlying40 cv dd de .i64 .i64 _ 28 rfl rfl (by first|rfl|omega) (by rw[dk];omega) oM (Nat.le_refl _) ?_;intro b7 o hg;have co:Hid (Below b.heap.size b b7):=(Below.refl _ _).grown hg (Nat.le_refl _) (λq hq=>by cases hq);have cp:Hid (dq b b7 (.slice (some ⟨b.heap.size,0,none⟩) 0 28) ([]++(cI C true).take 0)):=⟨co.out,o⟩;clear o hg ac ad al)
   clear co;go_loopw [7,43] (λi r wr=>∃j:Nat,j<=7/\r= .int .i64 (j:Int)/\Hid (dq b wr i ([]++(cI C true).take j))) (λ_ r _=>7-(intOf r).toNat)
   case atStart=>exact⟨0,by omega,rfl,cp.out⟩
   case round=>
    clear cp;obtain⟨j,T,rfl,a⟩:=hrel;by_cases B:j<7
    ·obtain⟨x,y,L,P,U,m,V,bt,bv⟩:=nx C true a1 0 j oO B;have M:Hid ([]++(cI C true).take (j+1)=([]++(cI C true).take j)++[(x,y)]):=by show _=_;rw[jl _ (0,0) (by rw[(dO C true).1];exact B),<-List.append_assoc];exact congrArg (λp=>_++[p]) L
     have G:Hid (([]++(cI C true).take j).length<=100):=by
      show _<=_;have:=dO C true;have hn:(bc true).length=7:=rfl;simp only[List.length_append,List.length_take,List.length_nil,this.1,this.2.1,this.2.2.1,this.2.2.2,hn];omega
     have D:=P rfl;have H:=D.1;have J:=D.2;have N:(bc true).getD j 0=(bc true).getD (j) 0:=by rfl
     rw[<-N]at H;have K:=jH (c:=true) (j:=j) B;have Z:Hid (∀W,af b W->W.cell? (X.add j)=some (.int .i64 ((bc true).getD j 0))):=λW l=>a2.out W l _ B;simp only[aN,Bool.false_eq_true,if_false,if_true]at H J K;generalize(bc true).getD j 0=E at*;have bx:-5<=E:=oO;have bz:E<=5:=oO;have b1:(C:Int)-5=(y:Int):=oO;clear J;clear P U m V D L N K;have c4:=Z.out _ a.out.B;obtain⟨ac,ad,al⟩:=a3.out _ a.out.B;generalize[]++(cI C true).take j=Y at*;go_wp2_with(at_builtin;refine iX (au a.out.O (ax _ _)) (Nat.le_trans a.out.B.size oS) rfl _ _ rfl rfl ⟨wr.heap.size,0,none⟩ 1 1 [(x,y)] rfl rfl (gh wr [(x,y)] _) (by have:=G.out;omega) ?_;intro v6 F o hg b2;have t:=Lib.hid (a.out.grow (ax _ _) o hg);clear o hg b2)
     first|exact⟨⟨j+1,by omega,by go_num,by show dq _ _ _ _;rw[M.out];exact t.out⟩,by simp[intOf];omega⟩|exact⟨⟨_,_,_,_,_,_,_,_,_,_,_,_,_,_,_,_,_,_,_,_,_,_,_,⟨j+1,by omega,by go_num,by show dq _ _ _ _;rw[M.out];exact t.out⟩,rfl⟩,by show 7-(intOf (.int .i64 ((j:Int)+1))).toNat<7-(intOf (.int .i64 (j:Int))).toNat;simp[intOf];omega⟩
    ·obtain rfl:j=7:=oO;have a4:∀i W,Hid (dq b W i ([]++(cI C true).take 7))->Hid (dq b W i (cI C true++(dW C true).take 0)):=λi W h=>by show dq _ _ _ _;have m:=h.out;rw[List.take_of_length_le (by simp[cI];decide)]at m;simpa using m
     have a4:=a4 _ _ a;clear a;go_wp2;go_loopw [7,61] (λi r wr=>∃j:Nat,j<=7/\r= .int .i64 (j:Int)/\Hid (dq b wr i (cI C true++(dW C true).take j))) (λ_ r _=>7-(intOf r).toNat)
     case atStart=>exact⟨0,by omega,rfl,a4.out⟩
     case round=>
      clear a4;obtain⟨j,T,rfl,a⟩:=hrel;by_cases B:j<7
      ·obtain⟨x,y,L,P,U,m,V,bt,bv⟩:=nx C true a1 1 j oO B;have M:Hid (cI C true++(dW C true).take (j+1)=(cI C true++(dW C true).take j)++[(x,y)]):=by show _=_;rw[jl _ (0,0) (by rw[(dO C true).2.1];exact B),<-List.append_assoc];exact congrArg (λp=>_++[p]) L
       have G:Hid ((cI C true++(dW C true).take j).length<=100):=by
        show _<=_;have:=dO C true;have hn:(bc true).length=7:=rfl;simp only[List.length_append,List.length_take,List.length_nil,this.1,this.2.1,this.2.2.1,this.2.2.2,hn];omega
       have D:=U rfl;have H:=D.1;have J:=D.2;have N:(bc true).getD j 0=(bc true).getD (j) 0:=by rfl
       rw[<-N]at J;have K:=jH (c:=true) (j:=j) B;have Z:Hid (∀W,af b W->W.cell? (X.add j)=some (.int .i64 ((bc true).getD j 0))):=λW l=>a2.out W l _ B;simp only[aN,Bool.false_eq_true,if_false,if_true]at H J K;generalize(bc true).getD j 0=E at*;have bx:-5<=E:=oO;have bz:E<=5:=oO;have b1:(C:Int)+5=(x:Int):=oO;clear H;clear P U m V D L N K;have c4:=Z.out _ a.out.B;obtain⟨ac,ad,al⟩:=a3.out _ a.out.B;generalize cI C true++(dW C true).take j=Y at*;go_wp2_with(at_builtin;refine iX (au a.out.O (ax _ _)) (Nat.le_trans a.out.B.size oS) rfl _ _ rfl rfl ⟨wr.heap.size,0,none⟩ 1 1 [(x,y)] rfl rfl (gh wr [(x,y)] _) (by have:=G.out;omega) ?_;intro v6 F o hg b2;have t:=Lib.hid (a.out.grow (ax _ _) o hg);clear o hg b2)
       first|exact⟨⟨j+1,by omega,by go_num,by show dq _ _ _ _;rw[M.out];exact t.out⟩,by simp[intOf];omega⟩|exact⟨⟨_,_,_,_,_,_,_,_,_,_,_,_,_,_,_,_,_,_,⟨j+1,by omega,by go_num,by show dq _ _ _ _;rw[M.out];exact t.out⟩,rfl⟩,by show 7-(intOf (.int .i64 ((j:Int)+1))).toNat<7-(intOf (.int .i64 (j:Int))).toNat;simp[intOf];omega⟩
      ·obtain rfl:j=7:=oO;have a5:∀i W,Hid (dq b W i (cI C true++(dW C true).take 7))->Hid (dq b W i (cI C true++dW C true++(gl C true).take 0)):=λi W h=>by show dq _ _ _ _;have m:=h.out;rw[List.take_of_length_le (by simp[dW];decide)]at m;simpa using m
       have a5:=a5 _ _ a;clear a;go_wp2;go_loopw [7,78] (λi r wr=>∃j:Nat,j<=7/\r= .int .i64 (j:Int)/\Hid (dq b wr i (cI C true++dW C true++(gl C true).take j))) (λ_ r _=>7-(intOf r).toNat)
       case atStart=>exact⟨0,by omega,rfl,a5.out⟩
       case round=>
        clear a5;obtain⟨j,T,rfl,a⟩:=hrel;by_cases B:j<7
        ·obtain⟨x,y,L,P,U,m,V,bt,bv⟩:=nx C true a1 2 j oO B;have M:Hid (cI C true++dW C true++(gl C true).take (j+1)=(cI C true++dW C true++(gl C true).take j)++[(x,y)]):=by show _=_;rw[jl _ (0,0) (by rw[(dO C true).2.2.1];exact B),<-List.append_assoc];exact congrArg (λp=>_++[p]) L
         have G:Hid ((cI C true++dW C true++(gl C true).take j).length<=100):=by
          show _<=_;have:=dO C true;have hn:(bc true).length=7:=rfl;simp only[List.length_append,List.length_take,List.length_nil,this.1,this.2.1,this.2.2.1,this.2.2.2,hn];omega
         have D:=m rfl;have H:=D.1;have J:=D.2;obtain⟨k,ap⟩:∃k,k=7-1-j:=⟨_,rfl⟩;have b5:(6:Int)-(j:Int)=(k:Int):=oO;have a0:k<7:=oO;have dp:(k:Int)<7:=oO;have dl:IntKind.i64.wrap 6=6:=aF _ oO oO;have dn:IntKind.i64.wrap (6-(j:Int))=(k:Int):=by rw[aF _ oO oO];omega
         have N:(bc true).getD k 0=(bc true).getD ((bc true).length-1-j) 0:=by rw[ap];rfl
         rw[<-N]at H;have K:=jH (c:=true) (j:=k) a0;have Z:Hid (∀W,af b W->W.cell? (X.add k)=some (.int .i64 ((bc true).getD k 0))):=λW l=>a2.out W l _ a0;simp only[aN,Bool.false_eq_true,if_false,if_true]at H J K;generalize(bc true).getD k 0=E at*;have bx:-5<=E:=oO;have bz:E<=5:=oO;have b1:(C:Int)+5=(y:Int):=oO;clear J;clear P U m V D L N K ap b5;have av:Hid (∀W,af b W->(W.cell? ⟨w.heap.size,1,none⟩=some (.bool true)/\W.cell? ⟨w.heap.size,2,none⟩=some (.int .i64 (C:Int))/\W.cell? ⟨w.heap.size,3,none⟩=some (.int .i64 5))/\W.cell? (X.add k)=some (.int .i64 E)):=λW l=>⟨a3.out W l,Z.out W l⟩;have c5:IntKind.i64.wrap (x:Int)=(x:Int):=aF _ oO oO;have c6:IntKind.i64.wrap (y:Int)=(y:Int):=aF _ oO oO;have c7:IntKind.i64.wrap ((C:Int)+E)=(x:Int):=by rw[aF _ oO oO];omega
         have c8:IntKind.i64.wrap ((C:Int)+5)=(y:Int):=by rw[aF _ oO oO];omega
         obtain⟨c9,da,e5⟩:=cU a.out.O;subst e5;generalize cI C true++dW C true++(gl C true).take j=Y at*;have b3:Hid (af b wr.drew):=ai a.out.B;go_wp2;refine yO (λW=>af b W) [1,2,3,4,5,6,7,8,9,10,11,12,13,14,15,0,16,17,0,18] b3.out ?_
         repeat refine zO av.out ?_
         obtain⟨F,Q⟩:∃F,F=wr.drew.alloc (.cells #[.int .i64 (x:Int),.int .i64 (y:Int)] 47):=⟨_,rfl⟩;have S:Hid (Below wr.heap.size wr F):=by show Below _ _ _;rw[Q];exact ah (ai (Below.refl _ _)) _
         obtain⟨lb,ab⟩:∃lb,lb=wr.heap.size:=⟨_,rfl⟩;have b4:Hid (∀j u,(([(x,y)]:List Pt).flatMap eS)[j]?=some u->F.cell? ((⟨lb,0,none⟩:Addr).add j)=some u):=by show∀_ _,_;rw[Q,ab];exact gh wr.drew [(x,y)] _
         refine' zQ (v:= .slice (some ⟨lb,0,none⟩) 1 1) (w':=F) rfl (by rw[Q,ab];go_simp) (ae a.out.B S.out) ?_;clear Q ab;refine' fY (ys:=[(x,y)]) (au a.out.O S.out) (Nat.le_trans a.out.B.size S.out.size) rfl _ _ rfl rfl rfl rfl b4.out (by have:=G.out;omega) ?_;intro be bf bi o hg;have t:Hid (dq b bi (.slice be (Y.length+1) bf) (Y++[(x,y)])):=a.out.grow S.out o hg;clear o hg;refine⟨t.out.B,?_⟩;simp only[yQ,yU,yX,yY]
         repeat refine zO av.out ?_
         refine ag ?_;go_wp2;first|exact⟨⟨j+1,by omega,by go_num,by show dq _ _ _ _;rw[M.out];exact t.out⟩,by simp[intOf];omega⟩|exact⟨⟨_,_,_,_,_,_,_,_,_,_,_,_,_,_,_,_,_,_,_,_,_,_,_,⟨j+1,by omega,by go_num,by show dq _ _ _ _;rw[M.out];exact t.out⟩,rfl⟩,by show 7-(intOf (.int .i64 ((j:Int)+1))).toNat<7-(intOf (.int .i64 (j:Int))).toNat;simp[intOf];omega⟩
        ·obtain rfl:j=7:=oO;have a6:∀i W,Hid (dq b W i (cI C true++dW C true++(gl C true).take 7))->Hid (dq b W i (cI C true++dW C true++gl C true++(lE C true).take 0)):=λi W h=>by show dq _ _ _ _;have m:=h.out;rw[List.take_of_length_le (by simp[gl];decide)]at m;simpa using m
         have a6:=a6 _ _ a;clear a;go_wp2;go_loopw [7,100] (λi r wr=>∃j:Nat,j<=7/\r= .int .i64 (j:Int)/\Hid (dq b wr i (cI C true++dW C true++gl C true++(lE C true).take j))) (λ_ r _=>7-(intOf r).toNat)
         case atStart=>exact⟨0,by omega,rfl,a6.out⟩
         case round=>
          clear a6;obtain⟨j,T,rfl,a⟩:=hrel;by_cases B:j<7
          ·obtain⟨x,y,L,P,U,m,V,bt,bv⟩:=nx C true a1 3 j oO B;have M:Hid (cI C true++dW C true++gl C true++(lE C true).take (j+1)=(cI C true++dW C true++gl C true++(lE C true).take j)++[(x,y)]):=by show _=_;rw[jl _ (0,0) (by rw[(dO C true).2.2.2];exact B),<-List.append_assoc];exact congrArg (λp=>_++[p]) L
           have G:Hid ((cI C true++dW C true++gl C true++(lE C true).take j).length<=100):=by
            show _<=_;have:=dO C true;have hn:(bc true).length=7:=rfl;simp only[List.length_append,List.length_take,List.length_nil,this.1,this.2.1,this.2.2.1,this.2.2.2,hn];omega
           have D:=V rfl;have H:=D.1;have J:=D.2;obtain⟨k,ap⟩:∃k,k=7-1-j:=⟨_,rfl⟩;have b5:(6:Int)-(j:Int)=(k:Int):=oO;have a0:k<7:=oO;have dp:(k:Int)<7:=oO;have dl:IntKind.i64.wrap 6=6:=aF _ oO oO;have dn:IntKind.i64.wrap (6-(j:Int))=(k:Int):=by rw[aF _ oO oO];omega
           have N:(bc true).getD k 0=(bc true).getD ((bc true).length-1-j) 0:=by rw[ap];rfl
           rw[<-N]at J;have K:=jH (c:=true) (j:=k) a0;have Z:Hid (∀W,af b W->W.cell? (X.add k)=some (.int .i64 ((bc true).getD k 0))):=λW l=>a2.out W l _ a0;simp only[aN,Bool.false_eq_true,if_false,if_true]at H J K;generalize(bc true).getD k 0=E at*;have bx:-5<=E:=oO;have bz:E<=5:=oO;have b1:(C:Int)-5=(x:Int):=oO;clear H;clear P U m V D L N K ap b5;have av:Hid (∀W,af b W->(W.cell? ⟨w.heap.size,1,none⟩=some (.bool true)/\W.cell? ⟨w.heap.size,2,none⟩=some (.int .i64 (C:Int))/\W.cell? ⟨w.heap.size,3,none⟩=some (.int .i64 5))/\W.cell? (X.add k)=some (.int .i64 E)):=λW l=>⟨a3.out W l,Z.out W l⟩;have c5:IntKind.i64.wrap (x:Int)=(x:Int):=aF _ oO oO;have c6:IntKind.i64.wrap (y:Int)=(y:Int):=aF _ oO oO;have c7:IntKind.i64.wrap ((C:Int)-5)=(x:Int):=by rw[aF _ oO oO];omega
           have c8:IntKind.i64.wrap ((C:Int)+E)=(y:Int):=by rw[aF _ oO oO];omega
           obtain⟨c9,da,e5⟩:=cU a.out.O;subst e5;generalize cI C true++dW C true++gl C true++(lE C true).take j=Y at*;have b3:Hid (af b wr.drew):=ai a.out.B;go_wp2;refine yO (λW=>af b W) [1,2,3,4,5,6,7,8,9,10,11,12,13,14,15,0,16,17,0,18] b3.out ?_
           repeat refine zO av.out ?_
           obtain⟨F,Q⟩:∃F,F=wr.drew.alloc (.cells #[.int .i64 (x:Int),.int .i64 (y:Int)] 47):=⟨_,rfl⟩;have S:Hid (Below wr.heap.size wr F):=by show Below _ _ _;rw[Q];exact ah (ai (Below.refl _ _)) _
           obtain⟨lb,ab⟩:∃lb,lb=wr.heap.size:=⟨_,rfl⟩;have b4:Hid (∀j u,(([(x,y)]:List Pt).flatMap eS)[j]?=some u->F.cell? ((⟨lb,0,none⟩:Addr).add j)=some u):=by show∀_ _,_;rw[Q,ab];exact gh wr.drew [(x,y)] _
           refine' zQ (v:= .slice (some ⟨lb,0,none⟩) 1 1) (w':=F) rfl (by rw[Q,ab];go_simp) (ae a.out.B S.out) ?_;clear Q ab;refine' fY (ys:=[(x,y)]) (au a.out.O S.out) (Nat.le_trans a.out.B.size S.out.size) rfl _ _ rfl rfl rfl rfl b4.out (by have:=G.out;omega) ?_;intro be bf bi o hg;have t:Hid (dq b bi (.slice be (Y.length+1) bf) (Y++[(x,y)])):=a.out.grow S.out o hg;clear o hg;refine⟨t.out.B,?_⟩;simp only[yQ,yU,yX,yY]
           repeat refine zO av.out ?_
           refine ag ?_;go_wp2;first|exact⟨⟨j+1,by omega,by go_num,by show dq _ _ _ _;rw[M.out];exact t.out⟩,by simp[intOf];omega⟩|exact⟨⟨_,_,_,_,_,_,_,_,_,_,_,_,_,_,_,_,_,_,_,_,_,_,_,⟨j+1,by omega,by go_num,by show dq _ _ _ _;rw[M.out];exact t.out⟩,rfl⟩,by show 7-(intOf (.int .i64 ((j:Int)+1))).toNat<7-(intOf (.int .i64 (j:Int))).toNat;simp[intOf];omega⟩
          ·obtain rfl:j=7:=oO;have a7:∀i W,Hid (dq b W i (cI C true++dW C true++gl C true++(lE C true).take 7))->Hid (dq b W i (cC C true)):=λi W h=>by show dq _ _ _ _;have m:=h.out;rw[List.take_of_length_le (by simp[lE];decide)]at m;rw[uQ];exact m
           have a7:=a7 _ _ a;clear a;go_wp2;go_ret;exact⟨_,rfl,(fN.cd a7.out.O).mono (ae cb.out bs.out).size,ae (ae cb.out bs.out) a7.out.B⟩
theorem xZ (s C:Nat) (w:World) (a1:7<=C) (dx:C<=100000000):Calls Tryz.prog 43 #[cY s false C 7] w λe w'=>∃v,e= .returned v/\fN w.heap.size w' v (cC C false)/\Below w.heap.size w w':=by
 obtain⟨ck,co,c7,c8,c9⟩:=info_parts sW;obtain⟨cp,V,da,dd,de⟩:=info_parts dg;obtain⟨P,am⟩:∃P,P=w.alloc (.cells #[.int .i64 (s:Int),.bool false,.int .i64 (C:Int),.int .i64 7] 71):=⟨_,rfl⟩;have b7:Hid (Below w.heap.size w P):=by show Below _ _ _;rw[am];exact ax _ _
 have bo:Hid (aa P w.heap.size #[.int .i64 (s:Int),.bool false,.int .i64 (C:Int),.int .i64 7] 71):=by show aa _ _ _ _;rw[am];exact aa.new _ _ _ _ oS
 have a8:Hid (∀W,af P W->W.cell? ⟨w.heap.size,1,none⟩=some (.bool false)/\W.cell? ⟨w.heap.size,2,none⟩=some (.int .i64 (C:Int))/\W.cell? ⟨w.heap.size,3,none⟩=some (.int .i64 7)):=λW l=>⟨(bo.out.below l).cell 1 _ rfl,(bo.out.below l).cell 2 _ rfl,(bo.out.below l).cell 3 _ rfl⟩;have b8:Hid (OG vI 3 P P (.slice none 0 0) (iH false 0)):=OG.start _ _;obtain⟨ac,ad,al⟩:=a8.out _ (Below.refl _ _);rw[am]at ac ad al;go_enter Tryz.func43,Tryz.ntmps43;go_wp2;rw[<-am];clear ac ad al am;go_loopw [3,4] (λi o wr=>∃g:Nat,g<=11/\o= .int .i64 (-5+(g:Int))/\Hid (OG vI 3 P wr i (iH false g))) (λ_ o _=>14-(intOf o+7).toNat)
 case atStart=>exact⟨0,by omega,rfl,b8.out⟩
 case round=>
  clear b8;obtain⟨g,cq,rfl,a⟩:=hrel;obtain⟨ac,ad,al⟩:=a8.out _ a.out.B;have a9:=Lib.hid (CI false g);by_cases r:g<11
  ·have dy:(-5:Int)+(g:Int)<=5:=oO;have O:Hid ((iH false g).length<=100):=by show _<=_;have:=xJ false g;omega
   by_cases N:g=5
   ·have bb:Hid (iH false (g+1)=iH false g):=by show _=_;rw[a9.out,N];decide
    have z:((-5:Int)+(g:Int)==0)=true:=by rw[beq_iff_eq];omega
    have cs:((-5:Int)+(g:Int)!=0)=false:=by rw[bne,z];rfl
    have cv:(-5:Int)+(g:Int)=0:=oO;go_wp2;exact⟨⟨g+1,by omega,by go_num,by show OG _ _ _ _ _ _;rw[bb.out];exact a.out⟩,by simp[intOf];omega⟩
   ·have bb:Hid (iH false (g+1)=iH false g++[-5+(g:Int)]):=by show _=_;rw[a9.out,if_pos (by simp[aN];omega)];rfl
    have z:((-5:Int)+(g:Int)==0)=false:=by rw[beq_eq_false_iff_ne];omega
    have cs:((-5:Int)+(g:Int)!=0)=true:=by rw[bne,z];rfl
    have cv:¬((-5:Int)+(g:Int)=0):=oO;go_wp2_with(at_builtin;refine aV (f:=vI) (d:=0) JL rfl _ _ _ rfl P.heap.size 3 cp _ 8 Tryz.underlying64 V da dd de rfl _ (iH false g).length (iH false g) rfl (au a.out.O (ax _ _)) (some ⟨wr.heap.size,0,none⟩) 1 1 [-5+(g:Int)] rfl rfl (RG.one _ _ _ _ rfl) (by have:=O.out;unfold maxLen;omega) (by have:=O.out;omega) (by have:=a.out.B.size;simp;omega) ?_;intro dp ds t hg;have B:=Lib.hid (a.out.grow (ax _ _) t hg);clear t hg)
    exact⟨⟨g+1,by omega,by go_num,by show OG _ _ _ _ _ _;rw[bb.out];exact B.out⟩,by simp[intOf];omega⟩
  ·obtain rfl:g=11:=oO;have dz:¬((-5:Int)+((11:Nat):Int)<=5):=oO;have bq:=SG.cd (d:=0) a.out.O;rw[show iH false 11=bc false from DV false]at bq;have b9:=Lib.hid bq;clear bq;have bs:=Lib.hid a.out.B;clear a a9 cq r;obtain⟨b,rfl⟩:∃b:World,b=wr:=⟨_,rfl⟩;obtain⟨A,n,dv,rfl,bd⟩:=b9.out.parts;have ca:=Lib.hid bd;have hn:n=10:=bd.hn;subst hn;clear bd b9;obtain⟨X,rfl,ci,cb⟩:=ca.out.rd oD;have a2:Hid (∀W,af b W->∀j:Nat,j<10->W.cell? (X.add j)=some (.int .i64 ((bc false).getD j 0))):=λW l j V=>(l.cell (by rw[aJ];exact ci)).trans (cb j (by show j<(bc false).length;exact V));have a3:Hid (∀W,af b W->W.cell? ⟨w.heap.size,1,none⟩=some (.bool false)/\W.cell? ⟨w.heap.size,2,none⟩=some (.int .i64 (C:Int))/\W.cell? ⟨w.heap.size,3,none⟩=some (.int .i64 7)):=λW l=>a8.out W (ae bs.out l);clear ci cb ca;go_wp2_with(at_make;refine wpList_make_own _ rfl _ _ _ rfl b.heap.size 47 ck _ 2 Tryz.underlying40 co c7 c8 .i64 .i64 _ 40 rfl rfl (by first|rfl|omega) (by rw[c9];omega) oM (Nat.le_refl _) ?_;intro b6 t hg;have ce:Hid (Below b.heap.size b b6):=(Below.refl _ _).grown hg (Nat.le_refl _) (λq hq=>by cases hq);have ch:Hid (dq b b6 (.slice (some ⟨b.heap.size,0,none⟩) 0 40) ([]++(cI C false).take 0)):=⟨ce.out,t⟩;clear t hg ac ad al)
   clear ce;go_loopw [7,43] (λi o wr=>∃j:Nat,j<=10/\o= .int .i64 (j:Int)/\Hid (dq b wr i ([]++(cI C false).take j))) (λ_ o _=>10-(intOf o).toNat)
   case atStart=>exact⟨0,by omega,rfl,ch.out⟩
   case round=>
    clear ch;obtain⟨j,V,rfl,a⟩:=hrel;by_cases r:j<10
    ·obtain⟨x,y,K,N,T,m,U,bt,bv⟩:=nx C false a1 0 j oO r;have L:Hid ([]++(cI C false).take (j+1)=([]++(cI C false).take j)++[(x,y)]):=by show _=_;rw[jl _ (0,0) (by rw[(dO C false).1];exact r),<-List.append_assoc];exact congrArg (λp=>_++[p]) K
     have O:Hid (([]++(cI C false).take j).length<=100):=by
      show _<=_;have:=dO C false;have hn:(bc false).length=10:=rfl;simp only[List.length_append,List.length_take,List.length_nil,this.1,this.2.1,this.2.2.1,this.2.2.2,hn];omega
     have D:=N rfl;have G:=D.1;have H:=D.2;have M:(bc false).getD j 0=(bc false).getD (j) 0:=by rfl
     rw[<-M]at G;have J:=jH (c:=false) (j:=j) r;have Z:Hid (∀W,af b W->W.cell? (X.add j)=some (.int .i64 ((bc false).getD j 0))):=λW l=>a2.out W l _ r;simp only[aN,Bool.false_eq_true,if_false,if_true]at G H J;generalize(bc false).getD j 0=E at*;have bx:-7<=E:=oO;have bz:E<=7:=oO;have b1:(C:Int)-7=(y:Int):=oO;clear H;clear N T m U D K M J;have cx:=Z.out _ a.out.B;obtain⟨ac,ad,al⟩:=a3.out _ a.out.B;generalize[]++(cI C false).take j=Y at*;go_wp2_with(at_builtin;refine iX (au a.out.O (ax _ _)) (Nat.le_trans a.out.B.size oS) rfl _ _ rfl rfl ⟨wr.heap.size,0,none⟩ 1 1 [(x,y)] rfl rfl (gh wr [(x,y)] _) (by have:=O.out;omega) ?_;intro v6 F t hg b2;have B:=Lib.hid (a.out.grow (ax _ _) t hg);clear t hg b2)
     first|exact⟨⟨j+1,by omega,by go_num,by show dq _ _ _ _;rw[L.out];exact B.out⟩,by simp[intOf];omega⟩|exact⟨⟨_,_,_,_,_,_,_,_,_,_,_,_,_,_,_,_,_,_,_,_,_,_,_,⟨j+1,by omega,by go_num,by show dq _ _ _ _;rw[L.out];exact B.out⟩,rfl⟩,by show 10-(intOf (.int .i64 ((j:Int)+1))).toNat<10-(intOf (.int .i64 (j:Int))).toNat;simp[intOf];omega⟩
    ·obtain rfl:j=10:=oO;have a4:∀i W,Hid (dq b W i ([]++(cI C false).take 10))->Hid (dq b W i (cI C false++(dW C false).take 0)):=λi W h=>by show dq _ _ _ _;have m:=h.out;rw[List.take_of_length_le (by simp[cI];decide)]at m;simpa using m
     have a4:=a4 _ _ a;clear a;go_wp2;go_loopw [7,61] (λi o wr=>∃j:Nat,j<=10/\o= .int .i64 (j:Int)/\Hid (dq b wr i (cI C false++(dW C false).take j))) (λ_ o _=>10-(intOf o).toNat)
     case atStart=>exact⟨0,by omega,rfl,a4.out⟩
     case round=>
      clear a4;obtain⟨j,V,rfl,a⟩:=hrel;by_cases r:j<10
      ·obtain⟨x,y,K,N,T,m,U,bt,bv⟩:=nx C false a1 1 j oO r;have L:Hid (cI C false++(dW C false).take (j+1)=(cI C false++(dW C false).take j)++[(x,y)]):=by show _=_;rw[jl _ (0,0) (by rw[(dO C false).2.1];exact r),<-List.append_assoc];exact congrArg (λp=>_++[p]) K
       have O:Hid ((cI C false++(dW C false).take j).length<=100):=by
        show _<=_;have:=dO C false;have hn:(bc false).length=10:=rfl;simp only[List.length_append,List.length_take,List.length_nil,this.1,this.2.1,this.2.2.1,this.2.2.2,hn];omega
       have D:=T rfl;have G:=D.1;have H:=D.2;have M:(bc false).getD j 0=(bc false).getD (j) 0:=by rfl
       rw[<-M]at H;have J:=jH (c:=false) (j:=j) r;have Z:Hid (∀W,af b W->W.cell? (X.add j)=some (.int .i64 ((bc false).getD j 0))):=λW l=>a2.out W l _ r;simp only[aN,Bool.false_eq_true,if_false,if_true]at G H J;generalize(bc false).getD j 0=E at*;have bx:-7<=E:=oO;have bz:E<=7:=oO;have b1:(C:Int)+7=(x:Int):=oO;clear G;clear N T m U D K M J;have cx:=Z.out _ a.out.B;obtain⟨ac,ad,al⟩:=a3.out _ a.out.B;generalize cI C false++(dW C false).take j=Y at*;go_wp2_with(at_builtin;refine iX (au a.out.O (ax _ _)) (Nat.le_trans a.out.B.size oS) rfl _ _ rfl rfl ⟨wr.heap.size,0,none⟩ 1 1 [(x,y)] rfl rfl (gh wr [(x,y)] _) (by have:=O.out;omega) ?_;intro v6 F t hg b2;have B:=Lib.hid (a.out.grow (ax _ _) t hg);clear t hg b2)
       first|exact⟨⟨j+1,by omega,by go_num,by show dq _ _ _ _;rw[L.out];exact B.out⟩,by simp[intOf];omega⟩|exact⟨⟨_,_,_,_,_,_,_,_,_,_,_,_,_,_,_,_,_,_,⟨j+1,by omega,by go_num,by show dq _ _ _ _;rw[L.out];exact B.out⟩,rfl⟩,by show 10-(intOf (.int .i64 ((j:Int)+1))).toNat<10-(intOf (.int .i64 (j:Int))).toNat;simp[intOf];omega⟩
      ·obtain rfl:j=10:=oO;have a5:∀i W,Hid (dq b W i (cI C false++(dW C false).take 10))->Hid (dq b W i (cI C false++dW C false++(gl C false).take 0)):=λi W h=>by show dq _ _ _ _;have m:=h.out;rw[List.take_of_length_le (by simp[dW];decide)]at m;simpa using m
       have a5:=a5 _ _ a;clear a;go_wp2;go_loopw [7,78] (λi o wr=>∃j:Nat,j<=10/\o= .int .i64 (j:Int)/\Hid (dq b wr i (cI C false++dW C false++(gl C false).take j))) (λ_ o _=>10-(intOf o).toNat)
       case atStart=>exact⟨0,by omega,rfl,a5.out⟩
       case round=>
        clear a5;obtain⟨j,V,rfl,a⟩:=hrel;by_cases r:j<10
        ·obtain⟨x,y,K,N,T,m,U,bt,bv⟩:=nx C false a1 2 j oO r;have L:Hid (cI C false++dW C false++(gl C false).take (j+1)=(cI C false++dW C false++(gl C false).take j)++[(x,y)]):=by show _=_;rw[jl _ (0,0) (by rw[(dO C false).2.2.1];exact r),<-List.append_assoc];exact congrArg (λp=>_++[p]) K
         have O:Hid ((cI C false++dW C false++(gl C false).take j).length<=100):=by
          show _<=_;have:=dO C false;have hn:(bc false).length=10:=rfl;simp only[List.length_append,List.length_take,List.length_nil,this.1,this.2.1,this.2.2.1,this.2.2.2,hn];omega
         have D:=m rfl;have G:=D.1;have H:=D.2;obtain⟨k,ap⟩:∃k,k=10-1-j:=⟨_,rfl⟩;have b5:(9:Int)-(j:Int)=(k:Int):=oO;have a0:k<10:=oO;have dn:(k:Int)<10:=oO;have dk:IntKind.i64.wrap 9=9:=aF _ oO oO;have dl:IntKind.i64.wrap (9-(j:Int))=(k:Int):=by rw[aF _ oO oO];omega
         have M:(bc false).getD k 0=(bc false).getD ((bc false).length-1-j) 0:=by rw[ap];rfl
         rw[<-M]at G;have J:=jH (c:=false) (j:=k) a0;have Z:Hid (∀W,af b W->W.cell? (X.add k)=some (.int .i64 ((bc false).getD k 0))):=λW l=>a2.out W l _ a0;simp only[aN,Bool.false_eq_true,if_false,if_true]at G H J;generalize(bc false).getD k 0=E at*;have bx:-7<=E:=oO;have bz:E<=7:=oO;have b1:(C:Int)+7=(y:Int):=oO;clear H;clear N T m U D K M J ap b5;have av:Hid (∀W,af b W->(W.cell? ⟨w.heap.size,1,none⟩=some (.bool false)/\W.cell? ⟨w.heap.size,2,none⟩=some (.int .i64 (C:Int))/\W.cell? ⟨w.heap.size,3,none⟩=some (.int .i64 7))/\W.cell? (X.add k)=some (.int .i64 E)):=λW l=>⟨a3.out W l,Z.out W l⟩;have cN:IntKind.i64.wrap (x:Int)=(x:Int):=aF _ oO oO;have c2:IntKind.i64.wrap (y:Int)=(y:Int):=aF _ oO oO;have c3:IntKind.i64.wrap ((C:Int)+E)=(x:Int):=by rw[aF _ oO oO];omega
         have c4:IntKind.i64.wrap ((C:Int)+7)=(y:Int):=by rw[aF _ oO oO];omega
         obtain⟨c5,c6,e5⟩:=cU a.out.O;subst e5;generalize cI C false++dW C false++(gl C false).take j=Y at*;have b3:Hid (af b wr.drew):=ai a.out.B;go_wp2;refine yO (λW=>af b W) [1,2,3,4,5,6,7,8,9,10,11,12,13,14,15,0,16,17,0,18] b3.out ?_
         repeat refine zO av.out ?_
         obtain⟨F,Q⟩:∃F,F=wr.drew.alloc (.cells #[.int .i64 (x:Int),.int .i64 (y:Int)] 47):=⟨_,rfl⟩;have S:Hid (Below wr.heap.size wr F):=by show Below _ _ _;rw[Q];exact ah (ai (Below.refl _ _)) _
         obtain⟨lb,ab⟩:∃lb,lb=wr.heap.size:=⟨_,rfl⟩;have b4:Hid (∀j u,(([(x,y)]:List Pt).flatMap eS)[j]?=some u->F.cell? ((⟨lb,0,none⟩:Addr).add j)=some u):=by show∀_ _,_;rw[Q,ab];exact gh wr.drew [(x,y)] _
         refine' zQ (v:= .slice (some ⟨lb,0,none⟩) 1 1) (w':=F) rfl (by rw[Q,ab];go_simp) (ae a.out.B S.out) ?_;clear Q ab;refine' fY (ys:=[(x,y)]) (au a.out.O S.out) (Nat.le_trans a.out.B.size S.out.size) rfl _ _ rfl rfl rfl rfl b4.out (by have:=O.out;omega) ?_;intro be bf bi t hg;have B:Hid (dq b bi (.slice be (Y.length+1) bf) (Y++[(x,y)])):=a.out.grow S.out t hg;clear t hg;refine⟨B.out.B,?_⟩;simp only[yQ,yU,yX,yY]
         repeat refine zO av.out ?_
         refine ag ?_;go_wp2;first|exact⟨⟨j+1,by omega,by go_num,by show dq _ _ _ _;rw[L.out];exact B.out⟩,by simp[intOf];omega⟩|exact⟨⟨_,_,_,_,_,_,_,_,_,_,_,_,_,_,_,_,_,_,_,_,_,_,_,⟨j+1,by omega,by go_num,by show dq _ _ _ _;rw[L.out];exact B.out⟩,rfl⟩,by show 10-(intOf (.int .i64 ((j:Int)+1))).toNat<10-(intOf (.int .i64 (j:Int))).toNat;simp[intOf];omega⟩
        ·obtain rfl:j=10:=oO;have a6:∀i W,Hid (dq b W i (cI C false++dW C false++(gl C false).take 10))->Hid (dq b W i (cI C false++dW C false++gl C false++(lE C false).take 0)):=λi W h=>by show dq _ _ _ _;have m:=h.out;rw[List.take_of_length_le (by simp[gl];decide)]at m;simpa using m
         have a6:=a6 _ _ a;clear a;go_wp2;go_loopw [7,100] (λi o wr=>∃j:Nat,j<=10/\o= .int .i64 (j:Int)/\Hid (dq b wr i (cI C false++dW C false++gl C false++(lE C false).take j))) (λ_ o _=>10-(intOf o).toNat)
         case atStart=>exact⟨0,by omega,rfl,a6.out⟩
         case round=>
          clear a6;obtain⟨j,V,rfl,a⟩:=hrel;by_cases r:j<10
          ·obtain⟨x,y,K,N,T,m,U,bt,bv⟩:=nx C false a1 3 j oO r;have L:Hid (cI C false++dW C false++gl C false++(lE C false).take (j+1)=(cI C false++dW C false++gl C false++(lE C false).take j)++[(x,y)]):=by show _=_;rw[jl _ (0,0) (by rw[(dO C false).2.2.2];exact r),<-List.append_assoc];exact congrArg (λp=>_++[p]) K
           have O:Hid ((cI C false++dW C false++gl C false++(lE C false).take j).length<=100):=by
            show _<=_;have:=dO C false;have hn:(bc false).length=10:=rfl;simp only[List.length_append,List.length_take,List.length_nil,this.1,this.2.1,this.2.2.1,this.2.2.2,hn];omega
           have D:=U rfl;have G:=D.1;have H:=D.2;obtain⟨k,ap⟩:∃k,k=10-1-j:=⟨_,rfl⟩;have b5:(9:Int)-(j:Int)=(k:Int):=oO;have a0:k<10:=oO;have dn:(k:Int)<10:=oO;have dk:IntKind.i64.wrap 9=9:=aF _ oO oO;have dl:IntKind.i64.wrap (9-(j:Int))=(k:Int):=by rw[aF _ oO oO];omega
           have M:(bc false).getD k 0=(bc false).getD ((bc false).length-1-j) 0:=by rw[ap];rfl
           rw[<-M]at H;have J:=jH (c:=false) (j:=k) a0;have Z:Hid (∀W,af b W->W.cell? (X.add k)=some (.int .i64 ((bc false).getD k 0))):=λW l=>a2.out W l _ a0;simp only[aN,Bool.false_eq_true,if_false,if_true]at G H J;generalize(bc false).getD k 0=E at*;have bx:-7<=E:=oO;have bz:E<=7:=oO;have b1:(C:Int)-7=(x:Int):=oO;clear G;clear N T m U D K M J ap b5;have av:Hid (∀W,af b W->(W.cell? ⟨w.heap.size,1,none⟩=some (.bool false)/\W.cell? ⟨w.heap.size,2,none⟩=some (.int .i64 (C:Int))/\W.cell? ⟨w.heap.size,3,none⟩=some (.int .i64 7))/\W.cell? (X.add k)=some (.int .i64 E)):=λW l=>⟨a3.out W l,Z.out W l⟩;have cN:IntKind.i64.wrap (x:Int)=(x:Int):=aF _ oO oO;have c2:IntKind.i64.wrap (y:Int)=(y:Int):=aF _ oO oO;have c3:IntKind.i64.wrap ((C:Int)-7)=(x:Int):=by rw[aF _ oO oO];omega
           have c4:IntKind.i64.wrap ((C:Int)+E)=(y:Int):=by rw[aF _ oO oO];omega
           obtain⟨c5,c6,e5⟩:=cU a.out.O;subst e5;generalize cI C false++dW C false++gl C false++(lE C false).take j=Y at*;have b3:Hid (af b wr.drew):=ai a.out.B;go_wp2;refine yO (λW=>af b W) [1,2,3,4,5,6,7,8,9,10,11,12,13,14,15,0,16,17,0,18] b3.out ?_
           repeat refine zO av.out ?_
           obtain⟨F,Q⟩:∃F,F=wr.drew.alloc (.cells #[.int .i64 (x:Int),.int .i64 (y:Int)] 47):=⟨_,rfl⟩;have S:Hid (Below wr.heap.size wr F):=by show Below _ _ _;rw[Q];exact ah (ai (Below.refl _ _)) _
           obtain⟨lb,ab⟩:∃lb,lb=wr.heap.size:=⟨_,rfl⟩;have b4:Hid (∀j u,(([(x,y)]:List Pt).flatMap eS)[j]?=some u->F.cell? ((⟨lb,0,none⟩:Addr).add j)=some u):=by show∀_ _,_;rw[Q,ab];exact gh wr.drew [(x,y)] _
           refine' zQ (v:= .slice (some ⟨lb,0,none⟩) 1 1) (w':=F) rfl (by rw[Q,ab];go_simp) (ae a.out.B S.out) ?_;clear Q ab;refine' fY (ys:=[(x,y)]) (au a.out.O S.out) (Nat.le_trans a.out.B.size S.out.size) rfl _ _ rfl rfl rfl rfl b4.out (by have:=O.out;omega) ?_;intro be bf bi t hg;have B:Hid (dq b bi (.slice be (Y.length+1) bf) (Y++[(x,y)])):=a.out.grow S.out t hg;clear t hg;refine⟨B.out.B,?_⟩;simp only[yQ,yU,yX,yY]
           repeat refine zO av.out ?_
           refine ag ?_;go_wp2;first|exact⟨⟨j+1,by omega,by go_num,by show dq _ _ _ _;rw[L.out];exact B.out⟩,by simp[intOf];omega⟩|exact⟨⟨_,_,_,_,_,_,_,_,_,_,_,_,_,_,_,_,_,_,_,_,_,_,_,⟨j+1,by omega,by go_num,by show dq _ _ _ _;rw[L.out];exact B.out⟩,rfl⟩,by show 10-(intOf (.int .i64 ((j:Int)+1))).toNat<10-(intOf (.int .i64 (j:Int))).toNat;simp[intOf];omega⟩
          ·obtain rfl:j=10:=oO;have a7:∀i W,Hid (dq b W i (cI C false++dW C false++gl C false++(lE C false).take 10))->Hid (dq b W i (cC C false)):=λi W h=>by show dq _ _ _ _;have m:=h.out;rw[List.take_of_length_le (by simp[lE];decide)]at m;rw[uQ];exact m
           have a7:=a7 _ _ a;clear a;go_wp2;go_ret;exact⟨_,rfl,(fN.cd a7.out.O).mono (ae b7.out bs.out).size,ae (ae b7.out bs.out) a7.out.B⟩
theorem oR (s C:Nat) (c:Bool) (w:World) (a:aN c<=C) (b:C<=100000000):Calls Tryz.prog 43 #[cY s c C (aN c)] w λe w'=>∃v,e= .returned v/\fN w.heap.size w' v (cC C c)/\Below w.heap.size w w':=by
 cases c with
 |true=>exact Ay s C w a b
 |false=>exact xZ s C w a b
def rS (L:Int) (c:Bool):Int:=if fH L c=true then 0 else 14
def pw (L:Int) (c:Bool):List Pt:=if fH L c=true then aZ L.toNat c else[]
def pH (L:Int) (c:Bool):List Pt:=if fH L c=true then cC (aQ L.toNat c) c else[]
def KM (w:World) (L:Int) (c:Bool) (e:Ending) (w':World):Prop:=∃v u,e= .returned (.tuple #[v,u,.int .i64 (rS L c)])/\SP w' v (pw L c)/\SP w' u (pH L c)/\Below w.heap.size w w'
theorem Cd (L:Int) (c:Bool) (w:World):Calls Tryz.prog 15 #[.int .i64 L,.bool c] w (KM w L c):=by
 have g:=eK w L c;have j:Hid (∀W,Calls Tryz.prog 29 #[bD L c] W λe w'=>e= .returned (.bool (fH L c))/\Below W.heap.size W w'):=λW=>fQ L c W;cases a:fH L c with
 |false=>
  have b:Hid (rS L c=14/\pw L c=[]/\pH L c=[]):=by show _/\_/\_;unfold rS pw pH;rw[a];exact⟨rfl,rfl,rfl⟩
  rw[a]at j;clear a;go_enter Tryz.func15,Tryz.ntmps15;go_wp2_with(go_at_call 29;refine(j.out _).mono ?_;rintro e z ⟨rfl,f⟩;have d:=Lib.hid f;clear f;obtain⟨q,r⟩:=g.out _ d.out)
  go_ret3
  exact⟨_,_,by rw[b.out.1];rfl,by rw[b.out.2.1];exact SP.dI _,by rw[b.out.2.2];exact SP.dI _,cH d.out⟩
 |true=>
  obtain⟨k,rfl,A,i,B⟩:=kg a;have b:Hid (rS k c=0/\pw k c=aZ k c/\pH k c=cC (aQ k c) c):=by show _/\_/\_;unfold rS pw pH;rw[a];exact⟨rfl,rfl,rfl⟩
  have M:=jg (c:=c) A i;have N:=gj (c:=c) i;have D:Hid (∀W,Calls Tryz.prog 46 #[bD k c] W λe w'=>∃v,e= .returned v/\fN W.heap.size w' v (aZ k c)/\Below W.heap.size W w'):=λW=>we k c W i;have O:Hid (∀W,Calls Tryz.prog 36 #[bD k c] W λe w'=>e= .returned (.int .i64 ((aj k c:Nat):Int))/\Below W.heap.size W w'):=λW=>mJ k c W i;have E:Hid (∀W,Calls Tryz.prog 39 #[.int .i64 ((aj k c:Nat):Int),.bool c] W λe w'=>e= .returned (cY (aj k c) c (aQ k c) (aN c))/\Below W.heap.size W w'):=λW=>jN (aj k c) c W oO oO;have F:Hid (∀W,Calls Tryz.prog 43 #[cY (aj k c) c (aQ k c) (aN c)] W λe w'=>∃v,e= .returned v/\fN W.heap.size w' v (cC (aQ k c) c)/\Below W.heap.size W w'):=λW=>oR (aj k c) (aQ k c) c W oO oO;rw[a]at j;generalize aZ k c=dl at*;generalize cC (aQ k c) c=X at*;generalize aj k c=S at*;generalize aQ k c=C at*;generalize aN c=Y at*;clear a B M N;go_enter Tryz.func15,Tryz.ntmps15;go_wp2_with(go_at_call 29;refine(j.out _).mono ?_;rintro e z ⟨rfl,f⟩;have d:=Lib.hid f;clear f;obtain⟨q,r⟩:=g.out _ d.out)
  clear q r;refine yO (af (w.alloc (bC k c))) [1,3,5,0,2,4,6,7,0,8,9,10] (ai d.out) ?_
  repeat refine zO g.out ?_
  refine zZ ?_;refine(D.out _).mono ?_;rintro e G ⟨Z,rfl,l,s⟩;obtain⟨⟨ab,ac,rfl,-⟩,-⟩:=id l;have P:=Lib.hid l.1;have t:Hid (af (w.alloc (bC k c)) G):=ae (ai d.out) s;clear l s;refine⟨_,rfl,t.out,jO ?_⟩;refine zZ ?_;refine(O.out _).mono ?_;rintro e H ⟨rfl,m⟩;have Q:=Lib.hid (P.out.below m);have u:Hid (af (w.alloc (bC k c)) H):=ae t.out m;clear m;refine⟨_,rfl,u.out,jO ?_⟩;refine zZ ?_;refine(E.out _).mono ?_;rintro e J ⟨rfl,n⟩;have T:=Lib.hid (Q.out.below n);have x:Hid (af (w.alloc (bC k c)) J):=ae u.out n;clear n;refine⟨_,rfl,x.out,jO ?_⟩;refine zZ ?_;refine(F.out _).mono ?_;rintro e K ⟨ad,rfl,o,p⟩;obtain⟨⟨al,am,rfl,-⟩,-⟩:=id o;have U:=Lib.hid o.1;have V:=Lib.hid (T.out.below p);have y:Hid (af (w.alloc (bC k c)) K):=ae x.out p;clear o p;refine⟨_,rfl,y.out,jO ?_⟩
  repeat refine zO g.out ?_
  refine ag ?_;go_wp2;go_ret3
  exact⟨_,_,by rw[b.out.1];rfl,by rw[b.out.2.1];exact V.out,by rw[b.out.2.2];exact U.out,cH y.out⟩
def vP (C:Nat) (p:Pt):Bool:=(lM p.1 C%16==0&&lM p.2 C%2==0)||(lM p.2 C%16==0&&lM p.1 C%2==0)
def nV (C:Nat) (c:Bool) (p:Pt):Bool:=if gT C p<aN c then gT C p%2==0 else !c&&vP C p
def cJ (n C:Nat) (c:Bool):List Bool:=(List.range (n* n)).map λi=>nV C c (i%n,i/n)
def gP:List Bool:=[true,true,true,true,true,true]
def kv:List Bool:=[false,false,false,false,false,false]
def jX (n C:Nat) (c:Bool):List Bool:=wrL n (wrL n (cJ n C c) (bG C (aN c)) gP) (ba C (aN c)) kv
def rO (L:Nat) (c:Bool) (d content msg:List Bool):List Bool:=
 wrL (aj L c) (wrL (aj L c) d ((aZ L c).drop ((aZ L c).length-content.length)) content) (cC (aQ L c) c) msg
def qk (L:Nat) (c:Bool) (content msg:List Bool):List Bool:=rO L c (jX (aj L c) (aQ L c) c) content msg
theorem iw (n C:Nat) (c:Bool):(cJ n C c).length=n* n:=by unfold cJ;simp
theorem kF (n C:Nat) (c:Bool):(jX n C c).length=n* n:=by unfold jX;rw[dS,dS,iw]
theorem kD (L:Nat) (c:Bool) (content msg:List Bool):(qk L c content msg).length=aj L c* aj L c:=by unfold qk rO;rw[dS,dS,kF]
theorem BJ {n C:Nat} {c:Bool} {p:Pt} (h1:p.1<n) (a:p.2<n):(cJ n C c).getD (bu n p) false=nV C c p:=by
 have b:bu n p<n* n:=iD h1 a;have hg:(cJ n C c).getD (bu n p) false=nV C c (bu n p%n,bu n p/n):=by
  unfold cJ;simp[List.getD,b]
 rw[hg];have e1:bu n p%n=p.1:=by unfold bu;rw[Nat.add_comm,Nat.add_mul_mod_self_right,Nat.mod_eq_of_lt h1]
 have e2:bu n p/n=p.2:=by unfold bu;rw[Nat.add_comm,Nat.add_mul_div_right _ _ oO,Nat.div_eq_of_lt h1,Nat.zero_add]
 rw[e1,e2]
theorem mP {C s:Nat} {p:Pt} (hs:5<=s) (b:s<=C) (h:p∈bG C s):gT C p=s/\p.1<2* C+1/\p.2<2* C+1/\∀a:Nat,C-s+2<=a->a+2<=C+s->p≠(a,C-s)/\p≠(C+s,a)/\p≠(a,C+s)/\p≠(C-s,a):=by
 simp only[bG,List.mem_cons,List.not_mem_nil,or_false]at h;unfold gT lM;rcases h with rfl|rfl|rfl|rfl|rfl|rfl
 all_goals simp only[Prod.mk.injEq,ne_eq]
 all_goals refine⟨by omega,by omega,by omega,λa h1 d=>⟨?_,?_,?_,?_⟩⟩<;>omega
theorem jq {C s:Nat} {p:Pt} (hs:5<=s) (b:s<=C) (h:p∈ba C s):gT C p=s/\p.1<2* C+1/\p.2<2* C+1/\∀a:Nat,C-s+2<=a->a+2<=C+s->p≠(a,C-s)/\p≠(C+s,a)/\p≠(a,C+s)/\p≠(C-s,a):=by
 simp only[ba,List.mem_cons,List.not_mem_nil,or_false]at h;unfold gT lM;rcases h with rfl|rfl|rfl|rfl|rfl|rfl
 all_goals simp only[Prod.mk.injEq,ne_eq]
 all_goals refine⟨by omega,by omega,by omega,λa h1 d=>⟨?_,?_,?_,?_⟩⟩<;>omega
theorem F2 {C s:Nat} {p q:Pt} (hs:5<=s) (b:s<=C) (a:p∈bG C s) (hq:q∈ba C s):p≠q:=by
 simp only[bG,List.mem_cons,List.not_mem_nil,or_false]at a;simp only[ba,List.mem_cons,List.not_mem_nil,or_false]at hq;rcases a with rfl|rfl|rfl|rfl|rfl|rfl<;>rcases hq with rfl|rfl|rfl|rfl|rfl|rfl<;>simp only[ne_eq,Prod.mk.injEq]<;>omega
theorem FO {C s:Nat} (hs:5<=s) (a:s<=C):(bG C s).Nodup:=by
 simp only[bG,List.nodup_cons,List.mem_cons,List.not_mem_nil,or_false,Prod.mk.injEq,not_false_eq_true,List.nodup_nil,and_true];refine⟨?_,?_,?_,?_,?_⟩<;>omega
theorem DJ {C s:Nat} (hs:5<=s) (a:s<=C):(ba C s).Nodup:=by
 simp only[ba,List.nodup_cons,List.mem_cons,List.not_mem_nil,or_false,Prod.mk.injEq,not_false_eq_true,List.nodup_nil,and_true];refine⟨?_,?_,?_,?_,?_⟩<;>omega
theorem o7 (c:Bool):5<=aN c:=by rcases ER c with h|h<;>omega
theorem Df {C:Nat} {c:Bool} (a:aN c<=C) {p:Pt} (h:p∈ba C (aN c)):nV C c p=false:=by
 have h1:=(jq (o7 c) a h).1;unfold nV;rw[if_neg oO];cases c with
 |true=>rfl
 |false=>
  simp only[aN,Bool.false_eq_true,if_false]at h a⊢;simp only[ba,List.mem_cons,List.not_mem_nil,or_false]at h;unfold vP lM;rcases h with rfl|rfl|rfl|rfl|rfl|rfl<;>simp only[Bool.not_false,Bool.true_and,Bool.or_eq_false_iff,Bool.and_eq_false_iff,beq_eq_false_iff_ne]<;>omega
theorem Jt {d:List Bool} {i:Nat} {b:Bool} (h:d.getD i false=b) (a:i<d.length):d.set i b=d:=by
 subst h;apply List.ext_getElem oS;intro j h1 f;rw[List.getElem_set];split
 ·rename_i e;subst e;simp[List.getD,a]
 ·rfl
theorem wE (W:Nat):∀(d:List Bool) (ps:List Pt) (a:List Bool),(∀p∈ps,bu W p<d.length)->cA W d ps=a->wrL W d ps a=d
 |d,[],a,_,_=>mz _ _ _
 |d,p::ps,[],_,h=>by cases h
 |d,p::ps,b::a,h1,h=>by
  injection h with e f;show wrL W (d.set (bu W p) b) ps a=d;rw[Jt e (h1 p (List.mem_cons_self ..))];exact wE W d ps a (λq hq=>h1 q (List.mem_cons_of_mem _ hq)) f
theorem Ng {W:Nat} {d:List Bool} {ps:List Pt} {a:List Bool} (hl:ps.length=a.length) (h:∀i,i<ps.length->d.getD (bu W (ps.getD i (0,0))) false=a.getD i false):cA W d ps=a:=by
 unfold cA;apply List.ext_getElem (by simpa using hl);intro i h1 e;have b:i<ps.length:=by simpa using h1
 have:=h i b;simpa[List.getD,b,e]using this
theorem yR {n C:Nat} {c:Bool} (a:aN c<=C) (hn:n=2* C+1):jX n C c=wrL n (cJ n C c) (bG C (aN c)) gP:=by
 unfold jX;refine wE _ _ _ _ (λp b=>?_) ?_
 ·have h:=jq (o7 c) a b;rw[dS,iw];exact iD oO oO
 ·rw[uP]
  ·refine Ng rfl λi d=>?_;have f:(ba C (aN c)).getD i (0,0)∈ba C (aN c):=by
    simp only[List.getD,List.getElem?_eq_getElem d,Option.getD_some];exact List.getElem_mem d
   have h:=jq (o7 c) a f;rw[BJ oO oO,Df a f];have j:i<6:=d;obtain rfl|rfl|rfl|rfl|rfl|rfl:i=0\/i=1\/i=2\/i=3\/i=4\/i=5:=oO
   all_goals rfl
  ·intro q hq p b e;have h:=jq (o7 c) a hq;have g:=mP (o7 c) a b;exact F2 (o7 c) a b hq (pn oO oO e)
theorem MC {n C:Nat} {c:Bool} (a:aN c<=C) (hn:n=2* C+1) {p:Pt} (h1:p.1<n) (d:p.2<n) (h:gT C p≠aN c):(jX n C c).getD (bu n p) false=nV C c p:=by
 rw[yR a hn,kb,BJ h1 d];intro q hq e;have b:=mP (o7 c) a hq;have:=pn oO h1 e;rw[this]at b;exact h b.1
theorem Kz {n C:Nat} {c:Bool} (a:aN c<=C) (hn:n=2* C+1):cA n (jX n C c) (bG C (aN c))=gP:=by
 rw[yR a hn];refine ud _ _ _ _ rfl (λp b=>?_) (mM (FO (o7 c) a) λp b=>?_)
 ·have h:=mP (o7 c) a b;rw[iw];exact iD oO oO
 ·have h:=mP (o7 c) a b;omega
theorem FL {n C:Nat} {c:Bool} (a:aN c<=C) (hn:n=2* C+1):cA n (jX n C c) (ba C (aN c))=kv:=by
 unfold jX;refine ud _ _ _ _ rfl (λp b=>?_) (mM (DJ (o7 c) a) λp b=>?_)
 ·have h:=jq (o7 c) a b;rw[dS,iw];exact iD oO oO
 ·have h:=jq (o7 c) a b;omega
section
variable {L : Nat} {c : Bool} (h1 : 1 ≤ L) (hL : L ≤ 32) {content msg : List Bool} (hc : content.length ≤ (aZ L c).length)
include h1 hL
theorem yZ {d:List Bool} {q:Pt} (b:q.1<aj L c) (f:q∉aZ L c) (g:q∉cC (aQ L c) c):(rO L c d content msg).getD (bu (aj L c) q) false=d.getD (bu (aj L c) q) false:=by
 have hs:=jg (c:=c) h1 hL;unfold rO;rw[kb,kb]
 ·intro p a e;have a:=List.mem_of_mem_drop a;exact f (pn (fL hL a).1 b e▸a)
 ·intro p a e;have:=mI (c:=c) (C:=aQ L c) oO a;exact g (pn oO b e▸a)
theorem JP {d:List Bool} (b:d.length=aj L c* aj L c) (e:msg.length=(cC (aQ L c) c).length):cA (aj L c) (rO L c d content msg) (cC (aQ L c) c)=msg:=by
 have hs:=jg (c:=c) h1 hL;unfold rO;refine ud _ _ _ _ e.symm (λp a=>?_) (mM (FX oO) λp a=>?_)
 ·have:=mI (c:=c) (C:=aQ L c) oO a;rw[dS,b];exact iD oO oO
 ·have:=mI (c:=c) (C:=aQ L c) oO a;omega
theorem Il {p q:Pt} (a:p∈cC (aQ L c) c) (hq:q∈aZ L c):bu (aj L c) p≠bu (aj L c) q:=λe=>by
 have hs:=jg (c:=c) h1 hL;have d:=mI (c:=c) (C:=aQ L c) oO a;have b:=yn (c:=c) (C:=aQ L c) oO a;have f:=pg hL hq;rw[pn oO (fL hL hq).1 e]at b;omega
include hc in
theorem JH {d:List Bool} (hd:d.length=aj L c* aj L c):cA (aj L c) (rO L c d content msg) ((aZ L c).drop ((aZ L c).length-content.length))=content:=by
 unfold rO;rw[uP _ _ _ _ _ λq hq p hp=>Il h1 hL hp (List.mem_of_mem_drop hq)];refine ud _ _ _ _ (by rw[List.length_drop];omega) (λp hp=>?_) (mM ((List.drop_sublist _ _).nodup (rT hL)) λp hp=>?_)
 ·have:=fL hL (List.mem_of_mem_drop hp);rw[hd];exact iD this.1 this.2
 ·exact(fL hL (List.mem_of_mem_drop hp)).1
theorem LV {p:Pt} (b:p.1<aj L c) (d:p.2<aj L c) (h:gT (aQ L c) p<aN c):(qk L c content msg).getD (bu (aj L c) p) false=(gT (aQ L c) p%2==0):=by
 have hs:=jg (c:=c) h1 hL;unfold qk;rw[yZ h1 hL b (λa=>by have:=pg hL a;omega) (λa=>by have:=yn oO a;omega),MC oO oO b d oO];unfold nV;rw[if_pos h]
theorem Cv {p:Pt} (h:p∈bG (aQ L c) (aN c)\/p∈ba (aQ L c) (aN c)):p.1<aj L c/\p.2<aj L c/\p∉aZ L c/\p∉cC (aQ L c) c:=by
 have hs:=jg (c:=c) h1 hL;have d:gT (aQ L c) p=aN c/\p.1<2* aQ L c+1/\p.2<2* aQ L c+1/\∀a:Nat,aQ L c-aN c+2<=a->a+2<=aQ L c+aN c->p≠(a,aQ L c-aN c)/\p≠(aQ L c+aN c,a)/\p≠(a,aQ L c+aN c)/\p≠(aQ L c-aN c,a):=by
  rcases h with h|h
  ·exact mP (o7 c) oO h
  ·exact jq (o7 c) oO h
 refine⟨by omega,by omega,λb=>by have:=pg hL b;omega,λb=>?_⟩;obtain⟨a,f,g,i⟩:=vw oO b;have:=d.2.2.2 a f g;rcases i with e|e|e|e
 ·exact this.1 e
 ·exact this.2.1 e
 ·exact this.2.2.1 e
 ·exact this.2.2.2 e
theorem zq {d:List Bool} {ps:List Pt} (h:∀p∈ps,p∈bG (aQ L c) (aN c)\/p∈ba (aQ L c) (aN c)):cA (aj L c) (rO L c d content msg) ps=cA (aj L c) d ps:=
 List.map_congr_left λp a=>by
  have:=Cv h1 hL (h p a);exact yZ h1 hL this.1 this.2.2.1 this.2.2.2
theorem JR:cA (aj L c) (qk L c content msg) (bG (aQ L c) (aN c))=gP:=by
 have hs:=jg (c:=c) h1 hL;unfold qk;rw[zq h1 hL λp a=> .inl a,Kz oO oO]
theorem It:cA (aj L c) (qk L c content msg) (ba (aQ L c) (aN c))=kv:=by
 have hs:=jg (c:=c) h1 hL;unfold qk;rw[zq h1 hL λp a=> .inr a,FL oO oO]
end
def GK (a b:Int):Int:=if b>a then b else a
def KR (a b c d:Int):Int:=GK (GK (GK a b) c) d
theorem Jm (f:Array TypeId) (e:TypeId) (a b c d:Int) (w:World):(Builtin.max_ f e #[.int .i64 a,.int .i64 b,.int .i64 c,.int .i64 d]).run Tryz.prog w= .ok (.int .i64 (KR a b c d)) w:=by
 simp[Builtin.max_,Builtin.max2,KR,GK]
theorem M8 (x y C:Nat):KR ((x:Int)-C) ((C:Int)-x) ((y:Int)-C) ((C:Int)-y)=((gT C (x,y):Nat):Int):=by
 unfold gT lM KR GK;simp only
 (repeat' split)<;>omega
theorem tL (s C m x y:Nat) (c:Bool) (w:World) (d:C<=1000000) (f:x<=1000000) (g:y<=1000000):Calls Tryz.prog 86 #[cY s c C m,.int .i64 x,.int .i64 y] w λe w'=>e= .returned (.int .i64 ((gT C (x,y):Nat):Int))/\Below w.heap.size w w':=by
 have a:=Lib.hid (M8 x y C);have b:Hid (Below w.heap.size w (w.alloc (.cells #[.int .i64 (s:Int),.bool c,.int .i64 (C:Int),.int .i64 (m:Int)] 71))):=ax _ _;have i:=Jm;go_enter Tryz.func86,Tryz.ntmps86;go_wp2;go_ret;exact⟨cS a.out,b.out⟩
theorem uW (d:Nat) (w:World) (b:d<=1000000):Calls Tryz.prog 87 #[.int .i64 d] w λe w'=>e= .returned (.bool (d%2==0))/\w'=w:=by
 have a:Hid (((d:Int)%2==0)=(d%2==0)):=by
  show _=_;rw[Bool.eq_iff_iff];simp;omega
 go_enter Tryz.func87,Tryz.ntmps87;go_wp2;exact bodyPost_ret (v:= .bool ((d:Int)%2==0)) (by simp[results,Tryz.results87,go_sem]) rfl ⟨by rw[a.out],rfl⟩
def KL (a b:Int):Bool:=(a.tmod 16==0&&b.tmod 2==0)||(b.tmod 16==0&&a.tmod 2==0)
theorem tmod_zero (x C:Nat) (k:Nat) (a:k≠0):(((x:Int)-(C:Int)).tmod (k:Int)==0)=(lM x C%k==0):=by
 rw[Bool.eq_iff_iff,beq_iff_eq,beq_iff_eq,<-Int.dvd_iff_tmod_eq_zero];have h:((k:Int)∣((x:Int)-(C:Int)))↔((k:Int)∣((lM x C:Nat):Int)):=by
  unfold lM;rcases Nat.le_total x C with h|h
  ·have e:(((x-C)+(C-x):Nat):Int)=-((x:Int)-(C:Int)):=oO;rw[e,Int.dvd_neg]
  ·have e:(((x-C)+(C-x):Nat):Int)=((x:Int)-(C:Int)):=oO;rw[e]
 rw[h,Int.natCast_dvd_natCast];exact⟨λh=>Nat.mod_eq_zero_of_dvd h,λh=>Nat.dvd_of_mod_eq_zero h⟩
theorem LS (x y C:Nat):KL ((x:Int)-C) ((y:Int)-C)=vP C (x,y):=by
 unfold KL vP;have a:=tmod_zero x C 16 oO;have b:=tmod_zero y C 2 oO;have c:=tmod_zero y C 16 oO;have d:=tmod_zero x C 2 oO;rw[show((16:Nat):Int)=16 from rfl]at a c;rw[show((2:Nat):Int)=2 from rfl]at b d;rw[a,b,c,d]
theorem uE (s C m:Nat) (c:Bool) (d f:Int) (w:World):Calls Tryz.prog 133 #[cY s c C m,.int .i64 d,.int .i64 f] w λe w'=>e= .returned (.bool (KL d f))/\Below w.heap.size w w':=by
 have n:Hid (Below w.heap.size w (w.alloc (.cells #[.int .i64 (s:Int),.bool c,.int .i64 (C:Int),.int .i64 (m:Int)] 71))):=ax _ _;have j:Hid (KL d f=((d.tmod 16==0&&f.tmod 2==0)||(f.tmod 16==0&&d.tmod 2==0))):=rfl;have g (a:Int):IntKind.i64.wrap (a.tmod 16)=a.tmod 16:=by
  have k:=Int.tmod_lt_of_pos a (show(0:Int)<16 by omega);have l:-16<a.tmod 16:=by have:=Int.lt_tmod_of_pos a (show(0:Int)<16 by omega);exact this
  exact aF _ oO oO
 have i (a:Int):IntKind.i64.wrap (a.tmod 2)=a.tmod 2:=by
  have k:=Int.tmod_lt_of_pos a (show(0:Int)<2 by omega);have l:-2<a.tmod 2:=by have:=Int.lt_tmod_of_pos a (show(0:Int)<2 by omega);exact this
  exact aF _ oO oO
 have k:=g d;have l:=g f;have u:=i d;have v:=i f;clear g i;generalize x:d.tmod 16=a at*;generalize hb:f.tmod 16=b at*;generalize hc:d.tmod 2=p at*;generalize y:f.tmod 2=q at*;cases o:(a==0)<;>cases eb:(b==0)<;>cases r:(p==0)<;>cases t:(q==0)
 all_goals
  rw[o,eb,r,t]at j;go_enter Tryz.func133,Tryz.ntmps133;go_wp2;go_ret;exact⟨bM (by rw[j.out];rfl),n.out⟩
def bh (w:World) (db:Nat) (l:List Bool):Prop:=aa w db (l.map vB).toArray 4
structure aB (db:Nat) (w w':World):Prop where
 sz:w.heap.size<=w'.heap.size
 bl:∀k,k<w.heap.size->k≠db->w'.heap[k]?=w.heap[k]?
 os:w'.os=w.os
 tape:w'.tape=w.tape
 output:w'.output=w.output
theorem aB.refl (db:Nat) (w:World):aB db w w:=⟨Nat.le_refl _,λ_ _ _=>rfl,rfl,rfl,rfl⟩
theorem aB.trans {db:Nat} {a b c:World} (h:aB db a b) (d:aB db b c):aB db a c:=⟨Nat.le_trans h.sz d.sz,λk e hn=>(d.bl k (Nat.lt_of_lt_of_le e h.sz) hn).trans (h.bl k e hn),d.os.trans h.os,d.tape.trans h.tape,d.output.trans h.output⟩
theorem aB.below {db:Nat} {w W:World} (h:Below w.heap.size w W):aB db w W:=⟨h.size,λk a _=>h.block k a,h.os,h.tape,h.output⟩
theorem aB.eT {db i:Nat} {w:World} (u:Value):aB db w (w.setCell ⟨db,i,none⟩ u):=⟨by simp,λk a hn=>Below.heap_setCell _ _ _ _ hn,rfl,rfl,rfl⟩
theorem aB.cell {db:Nat} {w W:World} (h:aB db w W) {a:Addr} (b:a.block<w.heap.size) (hn:a.block≠db):W.cell? a=w.cell? a:=by
 have e:W.heap[a.block]?=w.heap[a.block]?:=h.bl _ b hn;exact World.cell?_of_block e
theorem aB.row {db g:Nat} {w W:World} {c:Array Value} {a:TypeId} (h:aB db w W) (b:aa w g c a) (hn:g≠db):aa W g c a:=(h.bl _ (ar b) hn).trans b
theorem aB.to {db B:Nat} {w W:World} (h:aB db w W) (hb:B<=db) (a:B<=w.heap.size):Below B w W:=⟨h.os,h.tape,h.output,h.sz,λk b=>h.bl k (Nat.lt_of_lt_of_le b a) oO⟩
theorem bh.cell {w:World} {db:Nat} {l:List Bool} (h:bh w db l) {i:Nat} (a:i<l.length):w.cell? ⟨db,i,none⟩=some (.bool (l.getD i false)):=by
 refine aa.cell h i _ ?_;simp[List.getD,a,vB]
theorem bh.set {w:World} {db:Nat} {l:List Bool} (h:bh w db l) (i:Nat) (b:Bool):bh (w.setCell ⟨db,i,none⟩ (.bool b)) db (l.set i b):=by
 have:=heap_setCell_same w db i _ _ (.bool b) h;unfold bh aa;rw[this];simp[List.map_set,vB]
theorem bh.below {w W:World} {db:Nat} {l:List Bool} (h:bh w db l) (hb:Below w.heap.size w W):bh W db l:=aa.below h hb
theorem pY {a:Act} {b:Oper} {W:World} {x q:Operand} (c:b.op= .store 4 q x) (p:Addr) (v:Bool) (hq:a.eval q= .pointer (some p)) (d:a.eval x= .bool v) {u:Value} (hc:W.cell? p=some u) (e:W.frozen? p=false):
 (execOp a.eval b).run Tryz.prog W= .ok .skip (W.setCell p (.bool v)):=by
 unfold execOp;simp only[c,hq,d,Instr.storeAt,Instr.sureAddr,Sem.run_bind,Sem.run_pure,Result.andThen_ok];go_simp
abbrev FH (n H db N:Nat):Value:= .agg #[.int .i64 (n:Int),.int .i64 (H:Int),.slice (some ⟨db,0,none⟩) N N]
abbrev NU (n H db N:Nat):Obj:= .cells #[.int .i64 (n:Int),.int .i64 (H:Int),.slice (some ⟨db,0,none⟩) N N] 28
theorem zj (n H db N m k:Nat) (l:List Bool) (ps:List Pt) (d:List Bool) (v:Value) (B:Option Addr) (w:World) (hn:n<=1000) (cs:H<=1000) (a1:N=l.length) (c2:N<=100000000) (P:bh w db l) (bx:SP w v ps) (a5:∀A m k o,v= .slice A m k->A=some o->o.block≠db)
 (hb:SR vB false w B m k d) (a6:∀o,B=some o->o.block≠db) (bs:ps.length=d.length) (a7:∀p∈ps,bu n p<l.length):
 Calls Tryz.prog 84 #[FH n H db N,v,.slice B m k] w λe w'=>e= .returned (.tuple #[])/\bh w' db (wrL n l ps d)/\aB db w w':=by
 obtain⟨A,c,rfl,a8,b4,a2⟩:=bx;obtain⟨Q,X⟩:∃Q,Q=ps.length:=⟨_,rfl⟩;rw[<-X]at a8⊢;have b5:=hb.hn;have b6:m=Q:=oO;subst b6;have t:=Lib.hid X;have O:=Lib.hid bs;have bz:=Lib.hid P;have b1:=Lib.hid a2;have b7:=Lib.hid hb.rd;have b8:Hid (∀o,A=some o->o.block≠db):=λo e=>a5 A _ _ o rfl e;have b9:=Lib.hid a6;have ca:=Lib.hid a7;have a3:=Lib.hid a1;have c6:m<=9223372036854775807:=by unfold maxLen at*;omega
 have a9:db<w.heap.size:=ar P;clear P a2 hb a5 a6 a7 bs X b5 a8 b4 a1;obtain⟨i,F⟩:∃i,i=w.alloc (NU n H db N):=⟨_,rfl⟩;have Y:Hid (Below w.heap.size w i):=by show Below _ _ _;rw[F];exact ax _ _
 have Z:Hid (aa i w.heap.size #[.int .i64 (n:Int),.int .i64 (H:Int),.slice (some ⟨db,0,none⟩) N N] 28):=by show aa _ _ _ _;rw[F];exact aa.new _ _ _ _ oS
 have bb:Hid (bh i db (wrL n l (ps.take 0) (d.take 0))/\aB db i i):=by
  show _/\_;rw[List.take_zero,mz];exact⟨bz.out.below Y.out,aB.refl _ _⟩
 have cb:=Lib.hid a9;go_enter Tryz.func84,Tryz.ntmps84;go_wp2;rw[<-F];clear F a9;go_loopw [10] (λS wr=>∃j:Nat,j<=m/\S= .int .i64 j/\Hid (bh wr db (wrL n l (ps.take j) (d.take j))/\aB db i wr)) (λS _=>m-(intOf S).toNat)
 case atStart=>exact⟨0,Nat.zero_le _,rfl,bb.out⟩
 case round=>
  clear bb;obtain⟨j,cv,rfl,u⟩:=hrel;by_cases z:j<m
  ·obtain⟨g,D,rfl,G,bd⟩:=b1.out (by rw[<-t.out];omega);obtain⟨x,rfl,ab,be⟩:=b7.out (by rw[<-O.out,<-t.out];omega);have T:=bd j (by rw[<-t.out];exact z);have a4:=be j (by rw[<-O.out,<-t.out];exact z);have bf:g≠db:=b8.out _ rfl;have bt:x.block≠db:=b9.out _ rfl;have bi:ps.getD j (0,0)∈ps:=by
    have:j<ps.length:=by rw[<-t.out];exact z
    simp only[List.getD,List.getElem?_eq_getElem this,Option.getD_some];exact List.getElem_mem this
   have ap:=ca.out _ bi;have bv:Hid (wrL n l (ps.take (j+1)) (d.take (j+1))=(wrL n l (ps.take j) (d.take j)).set (bu n (ps.getD j (0,0))) (d.getD j false)):=wF n l ps d (by rw[<-t.out];exact z) (by rw[<-O.out,<-t.out];exact z);have bo:Hid ((wrL n l (ps.take j) (d.take j)).length=l.length):=dS _ _ _ _;generalize ps.getD j (0,0)=p at*;generalize d.getD j false=b at*;generalize wrL n l (ps.take j) (d.take j)=U at*;have y:aB db w wr:=(aB.below Y.out).trans u.out.2;have e1:wr.cell? ⟨g,D+j* 2,none⟩=some (.int .i64 (p.1:Int)):=(y.cell (a:=⟨g,D+j* 2,none⟩) G bf).trans T.1;have e2:wr.cell? ⟨g,D+j* 2+1,none⟩=some (.int .i64 (p.2:Int)):=(y.cell (a:=⟨g,D+j* 2+1,none⟩) G bf).trans T.2;have e3:wr.cell? (x.add j)=some (.bool b):=(y.cell (a:=x.add j) (by rw[aJ];exact ab) (by rw[aJ];exact bt)).trans a4;have ce:g<wr.heap.size:=Nat.lt_of_lt_of_le G y.sz;have ac:x.block<wr.heap.size:=Nat.lt_of_lt_of_le ab y.sz;obtain⟨f,J⟩:∃f,f=wr.alloc (.cells #[.int .i64 (p.1:Int),.int .i64 (p.2:Int)] 47):=⟨_,rfl⟩;obtain⟨s,K⟩:∃s,s=wr.heap.size:=⟨_,rfl⟩;have C:Hid (Below wr.heap.size wr f):=by show Below _ _ _;rw[J];exact ax _ _
   have L:Hid (aa f s #[.int .i64 (p.1:Int),.int .i64 (p.2:Int)] 47):=by show aa _ _ _ _;rw[J,K];exact aa.new _ _ _ _ oS
   have ch:Hid (bh f db U):=u.out.1.below C.out;have M:w.heap.size<i.heap.size:=ar Z.out;have bq:w.heap.size≠db:=by have:=cb.out;omega
   have ci:w.heap.size<f.heap.size:=Nat.lt_of_lt_of_le (Nat.lt_of_lt_of_le M u.out.2.sz) C.out.size;have ad:aB db i f:=u.out.2.trans (aB.below C.out);have av:s≠db:=by rw[K];have V:=ar u.out.1;omega
   have b2:Hid (∀W,aB db f W->(W.cell? ⟨w.heap.size,0,none⟩=some (.int .i64 (n:Int))/\W.cell? ⟨w.heap.size,2,none⟩=some (.slice (some ⟨db,0,none⟩) N N))/\(W.cell? ⟨s,0,none⟩=some (.int .i64 (p.1:Int))/\W.cell? ⟨s,1,none⟩=some (.int .i64 (p.2:Int)))/\W.cell? (x.add j)=some (.bool b)):=by
    show∀W,_;intro W E;have V:=ad.trans E;refine⟨⟨(V.cell (a:=⟨w.heap.size,0,none⟩) M bq).trans (Z.out.cell 0 _ rfl),(V.cell (a:=⟨w.heap.size,2,none⟩) M bq).trans (Z.out.cell 2 _ rfl)⟩,⟨(E.cell (a:=⟨s,0,none⟩) (ar L.out) av).trans (L.out.cell 0 _ rfl),(E.cell (a:=⟨s,1,none⟩) (ar L.out) av).trans (L.out.cell 1 _ rfl)⟩,?_⟩;exact(E.cell (a:=x.add j) (by rw[aJ];exact Nat.lt_of_lt_of_le ac C.out.size) (by rw[aJ];exact bt)).trans ((C.out.cell (by rw[aJ];exact ac)).trans e3)
   obtain⟨q,hq⟩:∃q,q=p.2* n:=⟨_,rfl⟩;obtain⟨r,a0⟩:∃r,r=bu n p:=⟨_,rfl⟩;have ck:r=q+p.1:=by rw[a0,hq];rfl
   rw[<-a0]at ap bv;rw[<-a3.out]at ap;have c3:q<=100000000:=oO;have c4:(p.2:Int)* (n:Int)=(q:Int):=by rw[hq];simp
   have cx:IntKind.i64.wrap (q:Int)=(q:Int):=aF _ oO oO;have cN:IntKind.i64.wrap ((q:Int)+(p.1:Int))=(r:Int):=by rw[aF _ oO oO];omega
   have c7:(r:Int)<(N:Int):=oO;have cp:Hid (r<U.length):=by show _<_;rw[bo.out,<-a3.out];exact ap
   have c5:(j:Int)<(m:Int):=oO;clear hq a0 ck bd be T a4 bi bo;have co:=Lib.hid ad;clear ad y ci av;go_wp2;rw[<-J,<-K];clear J K e1 e2 e3 M ce ac G ab;have al:Hid (aB db f f.drew):=aB.below (ai (Below.refl _ _));refine yO (λW=>aB db f W) [1,2,3,4,5,6,7,8,9,10,11,12,13,14,15,0,16] al.out ?_
   repeat refine zO b2.out ?_
   have am:Hid (bh f.drew db U):=ch.out.below (ai (Below.refl _ _));refine' aX (w':=f.drew.setCell ⟨db,r,none⟩ (.bool b)) rfl (pY rfl ⟨db,r,none⟩ b rfl rfl (am.out.cell cp.out) (frozen_of_row _ _ _ _ _ am.out)) (al.out.trans (aB.eT _)) ?_;simp only[yQ,yU,yX,yY];refine ag ?_;have cq:Hid (bh (f.drew.setCell ⟨db,r,none⟩ (.bool b)) db (wrL n l (ps.take (j+1)) (d.take (j+1)))/\aB db i (f.drew.setCell ⟨db,r,none⟩ (.bool b))):=by
    show _/\_;rw[bv.out];exact⟨am.out.set _ _,(co.out.trans al.out).trans (aB.eT _)⟩
   go_wp2;exact⟨⟨j+1,by omega,by go_num,cq.out⟩,by simp[intOf];omega⟩
  ·obtain rfl:j=m:=oO;have b3:Hid (wrL n l (ps.take j) (d.take j)=wrL n l ps d):=by show _=_;rw[t.out,List.take_length,O.out,List.take_length]
   go_wp2;refine bodyPost_end (results_none rfl _ _ _) rfl ?_;exact⟨rfl,by rw[<-b3.out];exact u.out.1,(aB.below Y.out).trans u.out.2⟩
end
end Go.Proofs.YtmnlkganmgcpbaaGreatDoor
