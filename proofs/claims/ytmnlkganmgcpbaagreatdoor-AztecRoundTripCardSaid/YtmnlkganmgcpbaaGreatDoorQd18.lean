import Derived.Test.YtmnlkganmgcpbaaGreatDoorQd17
set_option maxRecDepth 100000
set_option maxHeartbeats 4000000
set_option linter.unusedVariables false
set_option linter.unusedSectionVars false
set_option linter.unusedSimpArgs false
namespace Go.Proofs.YtmnlkganmgcpbaaGreatDoor
section
open Go.RowKit
def cO (C:Nat) (c:Bool):List Pt:=(bh c).map λa=>(mq C a,C-aM c)
def eg (C:Nat) (c:Bool):List Pt:=(bh c).map λa=>(C+aM c,mq C a)
def fY (C:Nat) (c:Bool):List Pt:=(bh c).reverse.map λa=>(mq C a,C+aM c)
def lP (C:Nat) (c:Bool):List Pt:=(bh c).reverse.map λa=>(C-aM c,mq C a)
theorem uu (C:Nat) (c:Bool):cn C c=cO C c++eg C c++fY C c++lP C c:=rfl
theorem mQ {α a:Type} (f:α->a) (l:List α) (d:α) (e:a) {j:Nat} (b:j<l.length):(l.map f).getD j e=f (l.getD j d):=by simp[List.getD,b]
theorem AI {α:Type} (l:List α) (d:α) {j:Nat} (a:j<l.length):l.reverse.getD j d=l.getD (l.length-1-j) d:=by
 simp[List.getD,List.getElem?_reverse a]
theorem js {α:Type} (l:List α) (d:α) {j:Nat} (a:j<l.length):l.take (j+1)=l.take j++[l.getD j d]:=by
 rw[List.take_succ_eq_append_getElem a];simp[List.getD,a]
theorem jN {c:Bool} {j:Nat} (a:j<(bh c).length):-((aM c:Nat):Int)+2<=(bh c).getD j 0/\(bh c).getD j 0+2<=((aM c:Nat):Int):=by
 refine xT ?_;simp only[List.getD,List.getElem?_eq_getElem a,Option.getD_some];exact List.getElem_mem a
theorem dS (C:Nat) (c:Bool):(cO C c).length=(bh c).length/\(eg C c).length=(bh c).length/\(fY C c).length=(bh c).length/\(lP C c).length=(bh c).length:=by
 simp[cO,eg,fY,lP]
abbrev bO (n:Nat) (c:Bool) (C m:Nat):Value:= .agg #[.int .i64 (n:Int),.bool c,.int .i64 (C:Int),.int .i64 (m:Int)]
theorem nr (C:Nat) (c:Bool) (e:aM c<=C) (k j:Nat) (f:k<4) (a:j<(bh c).length):∃x y:Nat,(match k with|0=>cO C c|1=>eg C c|2=>fY C c|_=>lP C c).getD j (0,0)=(x,y)/\
 (k=0->((C:Int)+(bh c).getD j 0=(x:Int)/\(C:Int)-((aM c:Nat):Int)=(y:Int)))/\(k=1->((C:Int)+((aM c:Nat):Int)=(x:Int)/\(C:Int)+(bh c).getD j 0=(y:Int)))/\
 (k=2->((C:Int)+(bh c).getD ((bh c).length-1-j) 0=(x:Int)/\(C:Int)+((aM c:Nat):Int)=(y:Int)))/\(k=3->((C:Int)-((aM c:Nat):Int)=(x:Int)/\(C:Int)+(bh c).getD ((bh c).length-1-j) 0=(y:Int)))/\x<=2* C/\y<=2* C:=by
 have g:=jN a;have d:(bh c).length-1-j<(bh c).length:=oO;have i:=jN d;have b:j<(bh c).reverse.length:=by simpa using a
 obtain rfl|rfl|rfl|rfl:k=0\/k=1\/k=2\/k=3:=oO
 ·refine⟨_,_,mQ _ _ 0 _ a,λ_=>?_,λh=>by omega,λh=>by omega,λh=>by omega,?_,?_⟩<;>(try unfold mq)<;>omega
 ·refine⟨_,_,mQ _ _ 0 _ a,λh=>by omega,λ_=>?_,λh=>by omega,λh=>by omega,?_,?_⟩<;>(try unfold mq)<;>omega
 ·refine⟨_,_,(mQ _ _ 0 _ b).trans (by rw[AI _ _ a]),λh=>by omega,λh=>by omega,λ_=>?_,λh=>by omega,?_,?_⟩<;>(try unfold mq)<;>omega
 ·refine⟨_,_,(mQ _ _ 0 _ b).trans (by rw[AI _ _ a]),λh=>by omega,λh=>by omega,λh=>by omega,λ_=>?_,?_,?_⟩<;>(try unfold mq)<;>omega
theorem Bp (n:Nat) (w:World) (b:1<=n) (hn:n<=100000000):Calls Tryz.prog 39 #[.int .i64 n,.bool true] w λe w'=>e= .returned (bO n true ((n-1)/2) 5)/\Below w.heap.size w w':=by
 obtain⟨t,a⟩:∃t,t=(n-1)/2:=⟨_,rfl⟩;have e1:((n:Int)-1)/2=(t:Int):=oO;have c:t<=100000000:=oO;rw[<-a];clear a;go_enter Tryz.func39,Tryz.ntmps39;go_wp2;exact bodyPost_ret (v:=bO n true t 5) (by simp[results,Tryz.results39,go_sem]) rfl ⟨rfl,ah (ax _ _) _⟩
theorem zA (n:Nat) (w:World) (b:1<=n) (hn:n<=100000000):Calls Tryz.prog 39 #[.int .i64 n,.bool false] w λe w'=>e= .returned (bO n false ((n-1)/2) 7)/\Below w.heap.size w w':=by
 obtain⟨t,a⟩:∃t,t=(n-1)/2:=⟨_,rfl⟩;have e1:((n:Int)-1)/2=(t:Int):=oO;have c:t<=100000000:=oO;rw[<-a];clear a;go_enter Tryz.func39,Tryz.ntmps39;go_wp2;exact bodyPost_ret (v:=bO n false t 7) (by simp[results,Tryz.results39,go_sem]) rfl ⟨rfl,ah (ax _ _) _⟩
theorem dK (n:Nat) (c:Bool) (w:World) (a:1<=n) (hn:n<=100000000):Calls Tryz.prog 39 #[.int .i64 n,.bool c] w λe w'=>e= .returned (bO n c ((n-1)/2) (aM c))/\Below w.heap.size w w':=by
 cases c with
 |true=>exact Bp n w a hn
 |false=>exact zA n w a hn
def iC (c:Bool) (t:Nat):List Int:=((List.range t).map λi:Nat=>(2:Int)-((aM c:Nat):Int)+(i:Int)).filter λa=>!(a==0)||c
theorem Br (c:Bool) (t:Nat):iC c (t+1)=if(!((2:Int)-((aM c:Nat):Int)+(t:Int)==0)||c)=true then iC c t++[(2:Int)-((aM c:Nat):Int)+(t:Int)]else iC c t:=by
 unfold iC;rw[List.range_succ,List.map_append,List.filter_append];simp only[List.map_cons,List.map_nil,List.filter_cons,List.filter_nil];split<;>simp
theorem D9 (c:Bool):iC c (2* aM c-3)=bh c:=by cases c<;>decide
theorem wj (c:Bool) (t:Nat):(iC c t).length<=t:=by
 unfold iC;exact Nat.le_trans (List.length_filter_le _ _) oS
theorem zR (s C:Nat) (w:World) (a1:5<=C) (dE:C<=100000000):Calls Tryz.prog 43 #[bO s true C 5] w λe w'=>∃v,e= .returned v/\fM w.heap.size w' v (cn C true)/\Below w.heap.size w w':=by
 obtain⟨cs,cv,de,dl,dn⟩:=info_parts sw;obtain⟨b6,T,b8,b9,ca⟩:=info_parts dm;obtain⟨O,am⟩:∃O,O=w.alloc (.cells #[.int .i64 (s:Int),.bool true,.int .i64 (C:Int),.int .i64 5] 71):=⟨_,rfl⟩;have cb:Hid (Below w.heap.size w O):=by show Below _ _ _;rw[am];exact ax _ _
 have bo:Hid (aa O w.heap.size #[.int .i64 (s:Int),.bool true,.int .i64 (C:Int),.int .i64 5] 71):=by show aa _ _ _ _;rw[am];exact aa.new _ _ _ _ oS
 have a8:Hid (∀W,af O W->W.cell? ⟨w.heap.size,1,none⟩=some (.bool true)/\W.cell? ⟨w.heap.size,2,none⟩=some (.int .i64 (C:Int))/\W.cell? ⟨w.heap.size,3,none⟩=some (.int .i64 5)):=λW k=>⟨(bo.out.below k).cell 1 _ rfl,(bo.out.below k).cell 2 _ rfl,(bo.out.below k).cell 3 _ rfl⟩;have ce:Hid (OG vI 3 O O (.slice none 0 0) (iC true 0)):=OG.start _ _;obtain⟨ac,ad,al⟩:=a8.out _ (Below.refl _ _);rw[am]at ac ad al;go_enter Tryz.func43,Tryz.ntmps43;go_wp2;rw[<-am];clear ac ad al am;go_loopw [3,4] (λg o wr=>∃t:Nat,t<=7/\o= .int .i64 (-3+(t:Int))/\Hid (OG vI 3 O wr g (iC true t))) (λ_ o _=>10-(intOf o+5).toNat)
 case atStart=>exact⟨0,by omega,rfl,ce.out⟩
 case round=>
  clear ce;obtain⟨t,cx,rfl,a⟩:=hrel;obtain⟨ac,ad,al⟩:=a8.out _ a.out.B;have a9:=Lib.hid (Br true t);by_cases B:t<7
  ·have d0:(-3:Int)+(t:Int)<=3:=oO;have G:Hid ((iC true t).length<=100):=by show _<=_;have:=wj true t;omega
   by_cases P:t=3
   ·have bb:Hid (iC true (t+1)=iC true t++[0]):=by show _=_;rw[a9.out,P,if_pos oS];rfl
    have c2:(-3:Int)+(t:Int)=0:=oO;go_wp2_with(at_builtin;refine aY (f:=vI) (d:=0) J2 rfl _ _ _ rfl O.heap.size 3 b6 _ 8 Tryz.underlying64 T b8 b9 ca rfl _ (iC true t).length (iC true t) rfl (ar a.out.O (ax _ _)) (some ⟨wr.heap.size,0,none⟩) 1 1 [0] rfl rfl (RG.one _ _ _ _ rfl) (by have:=G.out;unfold maxLen;omega) (by have:=G.out;omega) (by have:=a.out.B.size;simp;omega) ?_;intro c3 c4 m hg;have r:=Lib.hid (a.out.grow (ax _ _) m hg);clear m hg)
    exact⟨⟨t+1,by omega,by go_num,by show OG _ _ _ _ _ _;rw[bb.out];exact r.out⟩,by simp[intOf];omega⟩
   ·have bb:Hid (iC true (t+1)=iC true t++[-3+(t:Int)]):=by show _=_;rw[a9.out,if_pos oS];rfl
    have z:((-3:Int)+(t:Int)==0)=false:=by rw[beq_eq_false_iff_ne];omega
    have dy:((-3:Int)+(t:Int)!=0)=true:=by rw[bne,z];rfl
    have c2:¬((-3:Int)+(t:Int)=0):=oO;go_wp2_with(at_builtin;refine aY (f:=vI) (d:=0) J2 rfl _ _ _ rfl O.heap.size 3 b6 _ 8 Tryz.underlying64 T b8 b9 ca rfl _ (iC true t).length (iC true t) rfl (ar a.out.O (ax _ _)) (some ⟨wr.heap.size,0,none⟩) 1 1 [-3+(t:Int)] rfl rfl (RG.one _ _ _ _ rfl) (by have:=G.out;unfold maxLen;omega) (by have:=G.out;omega) (by have:=a.out.B.size;simp;omega) ?_;intro c3 c4 m hg;have r:=Lib.hid (a.out.grow (ax _ _) m hg);clear m hg)
    exact⟨⟨t+1,by omega,by go_num,by show OG _ _ _ _ _ _;rw[bb.out];exact r.out⟩,by simp[intOf];omega⟩
  ·obtain rfl:t=7:=oO;have d1:¬((-3:Int)+((7:Nat):Int)<=3):=oO;have bq:=SG.aI (d:=0) a.out.O;rw[show iC true 7=bh true from D9 true]at bq;have ch:=Lib.hid bq;clear bq;have bs:=Lib.hid a.out.B;clear a a9 cx B;obtain⟨b,rfl⟩:∃b:World,b=wr:=⟨_,rfl⟩;obtain⟨A,n,dz,rfl,bd⟩:=ch.out.parts;have ci:=Lib.hid bd;have hn:n=7:=bd.hn;subst hn;clear bd ch;obtain⟨X,rfl,cq,ck⟩:=ci.out.rd oD;have a2:Hid (∀W,af b W->∀j:Nat,j<7->W.cell? (X.add j)=some (.int .i64 ((bh true).getD j 0))):=λW k j T=>(k.cell (by rw[aL];exact cq)).trans (ck j (by show j<(bh true).length;exact T));have a3:Hid (∀W,af b W->W.cell? ⟨w.heap.size,1,none⟩=some (.bool true)/\W.cell? ⟨w.heap.size,2,none⟩=some (.int .i64 (C:Int))/\W.cell? ⟨w.heap.size,3,none⟩=some (.int .i64 5)):=λW k=>a8.out W (ae bs.out k);clear cq ck ci;go_wp2_with(at_make;refine wpList_make_own _ rfl _ _ _ rfl b.heap.size 47 cs _ 2 Tryz.underlying40 cv de dl .i64 .i64 _ 28 rfl rfl (by first|rfl|omega) (by rw[dn];omega) oM (Nat.le_refl _) ?_;intro b7 m hg;have co:Hid (Below b.heap.size b b7):=(Below.refl _ _).grown hg (Nat.le_refl _) (λq hq=>by cases hq);have cp:Hid (dq b b7 (.slice (some ⟨b.heap.size,0,none⟩) 0 28) ([]++(cO C true).take 0)):=⟨co.out,m⟩;clear m hg ac ad al)
   clear co;go_loopw [7,43] (λg o wr=>∃j:Nat,j<=7/\o= .int .i64 (j:Int)/\Hid (dq b wr g ([]++(cO C true).take j))) (λ_ o _=>7-(intOf o).toNat)
   case atStart=>exact⟨0,by omega,rfl,cp.out⟩
   case round=>
    clear cp;obtain⟨j,T,rfl,a⟩:=hrel;by_cases B:j<7
    ·obtain⟨x,y,L,P,U,l,V,bt,bv⟩:=nr C true a1 0 j oO B;have M:Hid ([]++(cO C true).take (j+1)=([]++(cO C true).take j)++[(x,y)]):=by show _=_;rw[js _ (0,0) (by rw[(dS C true).1];exact B),<-List.append_assoc];exact congrArg (λp=>_++[p]) L
     have G:Hid (([]++(cO C true).take j).length<=100):=by
      show _<=_;have:=dS C true;have hn:(bh true).length=7:=rfl;simp only[List.length_append,List.length_take,List.length_nil,this.1,this.2.1,this.2.2.1,this.2.2.2,hn];omega
     have D:=P rfl;have H:=D.1;have J:=D.2;have N:(bh true).getD j 0=(bh true).getD (j) 0:=by rfl
     rw[<-N]at H;have K:=jN (c:=true) (j:=j) B;have Z:Hid (∀W,af b W->W.cell? (X.add j)=some (.int .i64 ((bh true).getD j 0))):=λW k=>a2.out W k _ B;simp only[aM,Bool.false_eq_true,if_false,if_true]at H J K;generalize(bh true).getD j 0=E at*;have bx:-5<=E:=oO;have bz:E<=5:=oO;have b1:(C:Int)-5=(y:Int):=oO;clear J;clear P U l V D L N K;have c5:=Z.out _ a.out.B;obtain⟨ac,ad,al⟩:=a3.out _ a.out.B;generalize[]++(cO C true).take j=Y at*;go_wp2_with(at_builtin;refine iW (ar a.out.O (ax _ _)) (Nat.le_trans a.out.B.size oS) rfl _ _ rfl rfl ⟨wr.heap.size,0,none⟩ 1 1 [(x,y)] rfl rfl (ga wr [(x,y)] _) (by have:=G.out;omega) ?_;intro v6 F m hg b2;have r:=Lib.hid (a.out.grow (ax _ _) m hg);clear m hg b2)
     first|exact⟨⟨j+1,by omega,by go_num,by show dq _ _ _ _;rw[M.out];exact r.out⟩,by simp[intOf];omega⟩|exact⟨⟨_,_,_,_,_,_,_,_,_,_,_,_,_,_,_,_,_,_,_,_,_,_,_,⟨j+1,by omega,by go_num,by show dq _ _ _ _;rw[M.out];exact r.out⟩,rfl⟩,by show 7-(intOf (.int .i64 ((j:Int)+1))).toNat<7-(intOf (.int .i64 (j:Int))).toNat;simp[intOf];omega⟩
    ·obtain rfl:j=7:=oO;have a4:∀g W,Hid (dq b W g ([]++(cO C true).take 7))->Hid (dq b W g (cO C true++(eg C true).take 0)):=λg W h=>by show dq _ _ _ _;have l:=h.out;rw[List.take_of_length_le (by simp[cO];decide)]at l;simpa using l
     have a4:=a4 _ _ a;clear a;go_wp2;go_loopw [7,61] (λg o wr=>∃j:Nat,j<=7/\o= .int .i64 (j:Int)/\Hid (dq b wr g (cO C true++(eg C true).take j))) (λ_ o _=>7-(intOf o).toNat)
     case atStart=>exact⟨0,by omega,rfl,a4.out⟩
     case round=>
      clear a4;obtain⟨j,T,rfl,a⟩:=hrel;by_cases B:j<7
      ·obtain⟨x,y,L,P,U,l,V,bt,bv⟩:=nr C true a1 1 j oO B;have M:Hid (cO C true++(eg C true).take (j+1)=(cO C true++(eg C true).take j)++[(x,y)]):=by show _=_;rw[js _ (0,0) (by rw[(dS C true).2.1];exact B),<-List.append_assoc];exact congrArg (λp=>_++[p]) L
       have G:Hid ((cO C true++(eg C true).take j).length<=100):=by
        show _<=_;have:=dS C true;have hn:(bh true).length=7:=rfl;simp only[List.length_append,List.length_take,List.length_nil,this.1,this.2.1,this.2.2.1,this.2.2.2,hn];omega
       have D:=U rfl;have H:=D.1;have J:=D.2;have N:(bh true).getD j 0=(bh true).getD (j) 0:=by rfl
       rw[<-N]at J;have K:=jN (c:=true) (j:=j) B;have Z:Hid (∀W,af b W->W.cell? (X.add j)=some (.int .i64 ((bh true).getD j 0))):=λW k=>a2.out W k _ B;simp only[aM,Bool.false_eq_true,if_false,if_true]at H J K;generalize(bh true).getD j 0=E at*;have bx:-5<=E:=oO;have bz:E<=5:=oO;have b1:(C:Int)+5=(x:Int):=oO;clear H;clear P U l V D L N K;have c5:=Z.out _ a.out.B;obtain⟨ac,ad,al⟩:=a3.out _ a.out.B;generalize cO C true++(eg C true).take j=Y at*;go_wp2_with(at_builtin;refine iW (ar a.out.O (ax _ _)) (Nat.le_trans a.out.B.size oS) rfl _ _ rfl rfl ⟨wr.heap.size,0,none⟩ 1 1 [(x,y)] rfl rfl (ga wr [(x,y)] _) (by have:=G.out;omega) ?_;intro v6 F m hg b2;have r:=Lib.hid (a.out.grow (ax _ _) m hg);clear m hg b2)
       first|exact⟨⟨j+1,by omega,by go_num,by show dq _ _ _ _;rw[M.out];exact r.out⟩,by simp[intOf];omega⟩|exact⟨⟨_,_,_,_,_,_,_,_,_,_,_,_,_,_,_,_,_,_,⟨j+1,by omega,by go_num,by show dq _ _ _ _;rw[M.out];exact r.out⟩,rfl⟩,by show 7-(intOf (.int .i64 ((j:Int)+1))).toNat<7-(intOf (.int .i64 (j:Int))).toNat;simp[intOf];omega⟩
      ·obtain rfl:j=7:=oO;have a5:∀g W,Hid (dq b W g (cO C true++(eg C true).take 7))->Hid (dq b W g (cO C true++eg C true++(fY C true).take 0)):=λg W h=>by show dq _ _ _ _;have l:=h.out;rw[List.take_of_length_le (by simp[eg];decide)]at l;simpa using l
       have a5:=a5 _ _ a;clear a;go_wp2;go_loopw [7,78] (λg o wr=>∃j:Nat,j<=7/\o= .int .i64 (j:Int)/\Hid (dq b wr g (cO C true++eg C true++(fY C true).take j))) (λ_ o _=>7-(intOf o).toNat)
       case atStart=>exact⟨0,by omega,rfl,a5.out⟩
       case round=>
        clear a5;obtain⟨j,T,rfl,a⟩:=hrel;by_cases B:j<7
        ·obtain⟨x,y,L,P,U,l,V,bt,bv⟩:=nr C true a1 2 j oO B;have M:Hid (cO C true++eg C true++(fY C true).take (j+1)=(cO C true++eg C true++(fY C true).take j)++[(x,y)]):=by show _=_;rw[js _ (0,0) (by rw[(dS C true).2.2.1];exact B),<-List.append_assoc];exact congrArg (λp=>_++[p]) L
         have G:Hid ((cO C true++eg C true++(fY C true).take j).length<=100):=by
          show _<=_;have:=dS C true;have hn:(bh true).length=7:=rfl;simp only[List.length_append,List.length_take,List.length_nil,this.1,this.2.1,this.2.2.1,this.2.2.2,hn];omega
         have D:=l rfl;have H:=D.1;have J:=D.2;obtain⟨i,ap⟩:∃i,i=7-1-j:=⟨_,rfl⟩;have b5:(6:Int)-(j:Int)=(i:Int):=oO;have a0:i<7:=oO;have dx:(i:Int)<7:=oO;have ds:IntKind.i64.wrap 6=6:=aG _ oO oO;have dv:IntKind.i64.wrap (6-(j:Int))=(i:Int):=by rw[aG _ oO oO];omega
         have N:(bh true).getD i 0=(bh true).getD ((bh true).length-1-j) 0:=by rw[ap];rfl
         rw[<-N]at H;have K:=jN (c:=true) (j:=i) a0;have Z:Hid (∀W,af b W->W.cell? (X.add i)=some (.int .i64 ((bh true).getD i 0))):=λW k=>a2.out W k _ a0;simp only[aM,Bool.false_eq_true,if_false,if_true]at H J K;generalize(bh true).getD i 0=E at*;have bx:-5<=E:=oO;have bz:E<=5:=oO;have b1:(C:Int)+5=(y:Int):=oO;clear J;clear P U l V D L N K ap b5;have av:Hid (∀W,af b W->(W.cell? ⟨w.heap.size,1,none⟩=some (.bool true)/\W.cell? ⟨w.heap.size,2,none⟩=some (.int .i64 (C:Int))/\W.cell? ⟨w.heap.size,3,none⟩=some (.int .i64 5))/\W.cell? (X.add i)=some (.int .i64 E)):=λW k=>⟨a3.out W k,Z.out W k⟩;have c6:IntKind.i64.wrap (x:Int)=(x:Int):=aG _ oO oO;have c7:IntKind.i64.wrap (y:Int)=(y:Int):=aG _ oO oO;have c8:IntKind.i64.wrap ((C:Int)+E)=(x:Int):=by rw[aG _ oO oO];omega
         have c9:IntKind.i64.wrap ((C:Int)+5)=(y:Int):=by rw[aG _ oO oO];omega
         obtain⟨da,dd,e5⟩:=cY a.out.O;subst e5;generalize cO C true++eg C true++(fY C true).take j=Y at*;have b3:Hid (af b wr.drew):=aj a.out.B;go_wp2;refine yO (λW=>af b W) [1,2,3,4,5,6,7,8,9,10,11,12,13,14,15,0,16,17,0,18] b3.out ?_
         repeat refine zO av.out ?_
         obtain⟨F,Q⟩:∃F,F=wr.drew.alloc (.cells #[.int .i64 (x:Int),.int .i64 (y:Int)] 47):=⟨_,rfl⟩;have S:Hid (Below wr.heap.size wr F):=by show Below _ _ _;rw[Q];exact ah (aj (Below.refl _ _)) _
         obtain⟨lb,ab⟩:∃lb,lb=wr.heap.size:=⟨_,rfl⟩;have b4:Hid (∀j u,(([(x,y)]:List Pt).flatMap eY)[j]?=some u->F.cell? ((⟨lb,0,none⟩:Addr).add j)=some u):=by show∀_ _,_;rw[Q,ab];exact ga wr.drew [(x,y)] _
         refine' zQ (v:= .slice (some ⟨lb,0,none⟩) 1 1) (w':=F) rfl (by rw[Q,ab];go_simp) (ae a.out.B S.out) ?_;clear Q ab;refine' fT (ys:=[(x,y)]) (ar a.out.O S.out) (Nat.le_trans a.out.B.size S.out.size) rfl _ _ rfl rfl rfl rfl b4.out (by have:=G.out;omega) ?_;intro be bf bi m hg;have r:Hid (dq b bi (.slice be (Y.length+1) bf) (Y++[(x,y)])):=a.out.grow S.out m hg;clear m hg;refine⟨r.out.B,?_⟩;simp only[yQ,yU,yX,yY]
         repeat refine zO av.out ?_
         refine ag ?_;go_wp2;first|exact⟨⟨j+1,by omega,by go_num,by show dq _ _ _ _;rw[M.out];exact r.out⟩,by simp[intOf];omega⟩|exact⟨⟨_,_,_,_,_,_,_,_,_,_,_,_,_,_,_,_,_,_,_,_,_,_,_,⟨j+1,by omega,by go_num,by show dq _ _ _ _;rw[M.out];exact r.out⟩,rfl⟩,by show 7-(intOf (.int .i64 ((j:Int)+1))).toNat<7-(intOf (.int .i64 (j:Int))).toNat;simp[intOf];omega⟩
        ·obtain rfl:j=7:=oO;have a6:∀g W,Hid (dq b W g (cO C true++eg C true++(fY C true).take 7))->Hid (dq b W g (cO C true++eg C true++fY C true++(lP C true).take 0)):=λg W h=>by show dq _ _ _ _;have l:=h.out;rw[List.take_of_length_le (by simp[fY];decide)]at l;simpa using l
         have a6:=a6 _ _ a;clear a;go_wp2;go_loopw [7,100] (λg o wr=>∃j:Nat,j<=7/\o= .int .i64 (j:Int)/\Hid (dq b wr g (cO C true++eg C true++fY C true++(lP C true).take j))) (λ_ o _=>7-(intOf o).toNat)
         case atStart=>exact⟨0,by omega,rfl,a6.out⟩
         case round=>
          clear a6;obtain⟨j,T,rfl,a⟩:=hrel;by_cases B:j<7
          ·obtain⟨x,y,L,P,U,l,V,bt,bv⟩:=nr C true a1 3 j oO B;have M:Hid (cO C true++eg C true++fY C true++(lP C true).take (j+1)=(cO C true++eg C true++fY C true++(lP C true).take j)++[(x,y)]):=by show _=_;rw[js _ (0,0) (by rw[(dS C true).2.2.2];exact B),<-List.append_assoc];exact congrArg (λp=>_++[p]) L
           have G:Hid ((cO C true++eg C true++fY C true++(lP C true).take j).length<=100):=by
            show _<=_;have:=dS C true;have hn:(bh true).length=7:=rfl;simp only[List.length_append,List.length_take,List.length_nil,this.1,this.2.1,this.2.2.1,this.2.2.2,hn];omega
           have D:=V rfl;have H:=D.1;have J:=D.2;obtain⟨i,ap⟩:∃i,i=7-1-j:=⟨_,rfl⟩;have b5:(6:Int)-(j:Int)=(i:Int):=oO;have a0:i<7:=oO;have dx:(i:Int)<7:=oO;have ds:IntKind.i64.wrap 6=6:=aG _ oO oO;have dv:IntKind.i64.wrap (6-(j:Int))=(i:Int):=by rw[aG _ oO oO];omega
           have N:(bh true).getD i 0=(bh true).getD ((bh true).length-1-j) 0:=by rw[ap];rfl
           rw[<-N]at J;have K:=jN (c:=true) (j:=i) a0;have Z:Hid (∀W,af b W->W.cell? (X.add i)=some (.int .i64 ((bh true).getD i 0))):=λW k=>a2.out W k _ a0;simp only[aM,Bool.false_eq_true,if_false,if_true]at H J K;generalize(bh true).getD i 0=E at*;have bx:-5<=E:=oO;have bz:E<=5:=oO;have b1:(C:Int)-5=(x:Int):=oO;clear H;clear P U l V D L N K ap b5;have av:Hid (∀W,af b W->(W.cell? ⟨w.heap.size,1,none⟩=some (.bool true)/\W.cell? ⟨w.heap.size,2,none⟩=some (.int .i64 (C:Int))/\W.cell? ⟨w.heap.size,3,none⟩=some (.int .i64 5))/\W.cell? (X.add i)=some (.int .i64 E)):=λW k=>⟨a3.out W k,Z.out W k⟩;have c6:IntKind.i64.wrap (x:Int)=(x:Int):=aG _ oO oO;have c7:IntKind.i64.wrap (y:Int)=(y:Int):=aG _ oO oO;have c8:IntKind.i64.wrap ((C:Int)-5)=(x:Int):=by rw[aG _ oO oO];omega
           have c9:IntKind.i64.wrap ((C:Int)+E)=(y:Int):=by rw[aG _ oO oO];omega
           obtain⟨da,dd,e5⟩:=cY a.out.O;subst e5;generalize cO C true++eg C true++fY C true++(lP C true).take j=Y at*;have b3:Hid (af b wr.drew):=aj a.out.B;go_wp2;refine yO (λW=>af b W) [1,2,3,4,5,6,7,8,9,10,11,12,13,14,15,0,16,17,0,18] b3.out ?_
           repeat refine zO av.out ?_
           obtain⟨F,Q⟩:∃F,F=wr.drew.alloc (.cells #[.int .i64 (x:Int),.int .i64 (y:Int)] 47):=⟨_,rfl⟩;have S:Hid (Below wr.heap.size wr F):=by show Below _ _ _;rw[Q];exact ah (aj (Below.refl _ _)) _
           obtain⟨lb,ab⟩:∃lb,lb=wr.heap.size:=⟨_,rfl⟩;have b4:Hid (∀j u,(([(x,y)]:List Pt).flatMap eY)[j]?=some u->F.cell? ((⟨lb,0,none⟩:Addr).add j)=some u):=by show∀_ _,_;rw[Q,ab];exact ga wr.drew [(x,y)] _
           refine' zQ (v:= .slice (some ⟨lb,0,none⟩) 1 1) (w':=F) rfl (by rw[Q,ab];go_simp) (ae a.out.B S.out) ?_;clear Q ab;refine' fT (ys:=[(x,y)]) (ar a.out.O S.out) (Nat.le_trans a.out.B.size S.out.size) rfl _ _ rfl rfl rfl rfl b4.out (by have:=G.out;omega) ?_;intro be bf bi m hg;have r:Hid (dq b bi (.slice be (Y.length+1) bf) (Y++[(x,y)])):=a.out.grow S.out m hg;clear m hg;refine⟨r.out.B,?_⟩;simp only[yQ,yU,yX,yY]
           repeat refine zO av.out ?_
           refine ag ?_;go_wp2;first|exact⟨⟨j+1,by omega,by go_num,by show dq _ _ _ _;rw[M.out];exact r.out⟩,by simp[intOf];omega⟩|exact⟨⟨_,_,_,_,_,_,_,_,_,_,_,_,_,_,_,_,_,_,_,_,_,_,_,⟨j+1,by omega,by go_num,by show dq _ _ _ _;rw[M.out];exact r.out⟩,rfl⟩,by show 7-(intOf (.int .i64 ((j:Int)+1))).toNat<7-(intOf (.int .i64 (j:Int))).toNat;simp[intOf];omega⟩
          ·obtain rfl:j=7:=oO;have a7:∀g W,Hid (dq b W g (cO C true++eg C true++fY C true++(lP C true).take 7))->Hid (dq b W g (cn C true)):=λg W h=>by show dq _ _ _ _;have l:=h.out;rw[List.take_of_length_le (by simp[lP];decide)]at l;rw[uu];exact l
           have a7:=a7 _ _ a;clear a;go_wp2;go_ret;exact⟨_,rfl,(fM.aI a7.out.O).mono (ae cb.out bs.out).size,ae (ae cb.out bs.out) a7.out.B⟩
theorem xI (s C:Nat) (w:World) (a1:7<=C) (dE:C<=100000000):Calls Tryz.prog 43 #[bO s false C 7] w λe w'=>∃v,e= .returned v/\fM w.heap.size w' v (cn C false)/\Below w.heap.size w w':=by
 obtain⟨ck,co,c8,c9,da⟩:=info_parts sw;obtain⟨cp,V,dd,de,dl⟩:=info_parts dm;obtain⟨P,am⟩:∃P,P=w.alloc (.cells #[.int .i64 (s:Int),.bool false,.int .i64 (C:Int),.int .i64 7] 71):=⟨_,rfl⟩;have b7:Hid (Below w.heap.size w P):=by show Below _ _ _;rw[am];exact ax _ _
 have bo:Hid (aa P w.heap.size #[.int .i64 (s:Int),.bool false,.int .i64 (C:Int),.int .i64 7] 71):=by show aa _ _ _ _;rw[am];exact aa.new _ _ _ _ oS
 have a8:Hid (∀W,af P W->W.cell? ⟨w.heap.size,1,none⟩=some (.bool false)/\W.cell? ⟨w.heap.size,2,none⟩=some (.int .i64 (C:Int))/\W.cell? ⟨w.heap.size,3,none⟩=some (.int .i64 7)):=λW k=>⟨(bo.out.below k).cell 1 _ rfl,(bo.out.below k).cell 2 _ rfl,(bo.out.below k).cell 3 _ rfl⟩;have b8:Hid (OG vI 3 P P (.slice none 0 0) (iC false 0)):=OG.start _ _;obtain⟨ac,ad,al⟩:=a8.out _ (Below.refl _ _);rw[am]at ac ad al;go_enter Tryz.func43,Tryz.ntmps43;go_wp2;rw[<-am];clear ac ad al am;go_loopw [3,4] (λg m wr=>∃t:Nat,t<=11/\m= .int .i64 (-5+(t:Int))/\Hid (OG vI 3 P wr g (iC false t))) (λ_ m _=>14-(intOf m+7).toNat)
 case atStart=>exact⟨0,by omega,rfl,b8.out⟩
 case round=>
  clear b8;obtain⟨t,cq,rfl,a⟩:=hrel;obtain⟨ac,ad,al⟩:=a8.out _ a.out.B;have a9:=Lib.hid (Br false t);by_cases o:t<11
  ·have d0:(-5:Int)+(t:Int)<=5:=oO;have O:Hid ((iC false t).length<=100):=by show _<=_;have:=wj false t;omega
   by_cases N:t=5
   ·have bb:Hid (iC false (t+1)=iC false t):=by show _=_;rw[a9.out,N];decide
    have z:((-5:Int)+(t:Int)==0)=true:=by rw[beq_iff_eq];omega
    have cs:((-5:Int)+(t:Int)!=0)=false:=by rw[bne,z];rfl
    have cv:(-5:Int)+(t:Int)=0:=oO;go_wp2;exact⟨⟨t+1,by omega,by go_num,by show OG _ _ _ _ _ _;rw[bb.out];exact a.out⟩,by simp[intOf];omega⟩
   ·have bb:Hid (iC false (t+1)=iC false t++[-5+(t:Int)]):=by show _=_;rw[a9.out,if_pos (by simp[aM];omega)];rfl
    have z:((-5:Int)+(t:Int)==0)=false:=by rw[beq_eq_false_iff_ne];omega
    have cs:((-5:Int)+(t:Int)!=0)=true:=by rw[bne,z];rfl
    have cv:¬((-5:Int)+(t:Int)=0):=oO;go_wp2_with(at_builtin;refine aY (f:=vI) (d:=0) J2 rfl _ _ _ rfl P.heap.size 3 cp _ 8 Tryz.underlying64 V dd de dl rfl _ (iC false t).length (iC false t) rfl (ar a.out.O (ax _ _)) (some ⟨wr.heap.size,0,none⟩) 1 1 [-5+(t:Int)] rfl rfl (RG.one _ _ _ _ rfl) (by have:=O.out;unfold maxLen;omega) (by have:=O.out;omega) (by have:=a.out.B.size;simp;omega) ?_;intro dx dy r hg;have B:=Lib.hid (a.out.grow (ax _ _) r hg);clear r hg)
    exact⟨⟨t+1,by omega,by go_num,by show OG _ _ _ _ _ _;rw[bb.out];exact B.out⟩,by simp[intOf];omega⟩
  ·obtain rfl:t=11:=oO;have d1:¬((-5:Int)+((11:Nat):Int)<=5):=oO;have bq:=SG.aI (d:=0) a.out.O;rw[show iC false 11=bh false from D9 false]at bq;have b9:=Lib.hid bq;clear bq;have bs:=Lib.hid a.out.B;clear a a9 cq o;obtain⟨b,rfl⟩:∃b:World,b=wr:=⟨_,rfl⟩;obtain⟨A,n,dz,rfl,bd⟩:=b9.out.parts;have ca:=Lib.hid bd;have hn:n=10:=bd.hn;subst hn;clear bd b9;obtain⟨X,rfl,ci,cb⟩:=ca.out.rd oD;have a2:Hid (∀W,af b W->∀j:Nat,j<10->W.cell? (X.add j)=some (.int .i64 ((bh false).getD j 0))):=λW k j V=>(k.cell (by rw[aL];exact ci)).trans (cb j (by show j<(bh false).length;exact V));have a3:Hid (∀W,af b W->W.cell? ⟨w.heap.size,1,none⟩=some (.bool false)/\W.cell? ⟨w.heap.size,2,none⟩=some (.int .i64 (C:Int))/\W.cell? ⟨w.heap.size,3,none⟩=some (.int .i64 7)):=λW k=>a8.out W (ae bs.out k);clear ci cb ca;go_wp2_with(at_make;refine wpList_make_own _ rfl _ _ _ rfl b.heap.size 47 ck _ 2 Tryz.underlying40 co c8 c9 .i64 .i64 _ 40 rfl rfl (by first|rfl|omega) (by rw[da];omega) oM (Nat.le_refl _) ?_;intro b6 r hg;have ce:Hid (Below b.heap.size b b6):=(Below.refl _ _).grown hg (Nat.le_refl _) (λq hq=>by cases hq);have ch:Hid (dq b b6 (.slice (some ⟨b.heap.size,0,none⟩) 0 40) ([]++(cO C false).take 0)):=⟨ce.out,r⟩;clear r hg ac ad al)
   clear ce;go_loopw [7,43] (λg m wr=>∃j:Nat,j<=10/\m= .int .i64 (j:Int)/\Hid (dq b wr g ([]++(cO C false).take j))) (λ_ m _=>10-(intOf m).toNat)
   case atStart=>exact⟨0,by omega,rfl,ch.out⟩
   case round=>
    clear ch;obtain⟨j,V,rfl,a⟩:=hrel;by_cases o:j<10
    ·obtain⟨x,y,K,N,T,l,U,bt,bv⟩:=nr C false a1 0 j oO o;have L:Hid ([]++(cO C false).take (j+1)=([]++(cO C false).take j)++[(x,y)]):=by show _=_;rw[js _ (0,0) (by rw[(dS C false).1];exact o),<-List.append_assoc];exact congrArg (λp=>_++[p]) K
     have O:Hid (([]++(cO C false).take j).length<=100):=by
      show _<=_;have:=dS C false;have hn:(bh false).length=10:=rfl;simp only[List.length_append,List.length_take,List.length_nil,this.1,this.2.1,this.2.2.1,this.2.2.2,hn];omega
     have D:=N rfl;have G:=D.1;have H:=D.2;have M:(bh false).getD j 0=(bh false).getD (j) 0:=by rfl
     rw[<-M]at G;have J:=jN (c:=false) (j:=j) o;have Z:Hid (∀W,af b W->W.cell? (X.add j)=some (.int .i64 ((bh false).getD j 0))):=λW k=>a2.out W k _ o;simp only[aM,Bool.false_eq_true,if_false,if_true]at G H J;generalize(bh false).getD j 0=E at*;have bx:-7<=E:=oO;have bz:E<=7:=oO;have b1:(C:Int)-7=(y:Int):=oO;clear H;clear N T l U D K M J;have cx:=Z.out _ a.out.B;obtain⟨ac,ad,al⟩:=a3.out _ a.out.B;generalize[]++(cO C false).take j=Y at*;go_wp2_with(at_builtin;refine iW (ar a.out.O (ax _ _)) (Nat.le_trans a.out.B.size oS) rfl _ _ rfl rfl ⟨wr.heap.size,0,none⟩ 1 1 [(x,y)] rfl rfl (ga wr [(x,y)] _) (by have:=O.out;omega) ?_;intro v6 F r hg b2;have B:=Lib.hid (a.out.grow (ax _ _) r hg);clear r hg b2)
     first|exact⟨⟨j+1,by omega,by go_num,by show dq _ _ _ _;rw[L.out];exact B.out⟩,by simp[intOf];omega⟩|exact⟨⟨_,_,_,_,_,_,_,_,_,_,_,_,_,_,_,_,_,_,_,_,_,_,_,⟨j+1,by omega,by go_num,by show dq _ _ _ _;rw[L.out];exact B.out⟩,rfl⟩,by show 10-(intOf (.int .i64 ((j:Int)+1))).toNat<10-(intOf (.int .i64 (j:Int))).toNat;simp[intOf];omega⟩
    ·obtain rfl:j=10:=oO;have a4:∀g W,Hid (dq b W g ([]++(cO C false).take 10))->Hid (dq b W g (cO C false++(eg C false).take 0)):=λg W h=>by show dq _ _ _ _;have l:=h.out;rw[List.take_of_length_le (by simp[cO];decide)]at l;simpa using l
     have a4:=a4 _ _ a;clear a;go_wp2;go_loopw [7,61] (λg m wr=>∃j:Nat,j<=10/\m= .int .i64 (j:Int)/\Hid (dq b wr g (cO C false++(eg C false).take j))) (λ_ m _=>10-(intOf m).toNat)
     case atStart=>exact⟨0,by omega,rfl,a4.out⟩
     case round=>
      clear a4;obtain⟨j,V,rfl,a⟩:=hrel;by_cases o:j<10
      ·obtain⟨x,y,K,N,T,l,U,bt,bv⟩:=nr C false a1 1 j oO o;have L:Hid (cO C false++(eg C false).take (j+1)=(cO C false++(eg C false).take j)++[(x,y)]):=by show _=_;rw[js _ (0,0) (by rw[(dS C false).2.1];exact o),<-List.append_assoc];exact congrArg (λp=>_++[p]) K
       have O:Hid ((cO C false++(eg C false).take j).length<=100):=by
        show _<=_;have:=dS C false;have hn:(bh false).length=10:=rfl;simp only[List.length_append,List.length_take,List.length_nil,this.1,this.2.1,this.2.2.1,this.2.2.2,hn];omega
       have D:=T rfl;have G:=D.1;have H:=D.2;have M:(bh false).getD j 0=(bh false).getD (j) 0:=by rfl
       rw[<-M]at H;have J:=jN (c:=false) (j:=j) o;have Z:Hid (∀W,af b W->W.cell? (X.add j)=some (.int .i64 ((bh false).getD j 0))):=λW k=>a2.out W k _ o;simp only[aM,Bool.false_eq_true,if_false,if_true]at G H J;generalize(bh false).getD j 0=E at*;have bx:-7<=E:=oO;have bz:E<=7:=oO;have b1:(C:Int)+7=(x:Int):=oO;clear G;clear N T l U D K M J;have cx:=Z.out _ a.out.B;obtain⟨ac,ad,al⟩:=a3.out _ a.out.B;generalize cO C false++(eg C false).take j=Y at*;go_wp2_with(at_builtin;refine iW (ar a.out.O (ax _ _)) (Nat.le_trans a.out.B.size oS) rfl _ _ rfl rfl ⟨wr.heap.size,0,none⟩ 1 1 [(x,y)] rfl rfl (ga wr [(x,y)] _) (by have:=O.out;omega) ?_;intro v6 F r hg b2;have B:=Lib.hid (a.out.grow (ax _ _) r hg);clear r hg b2)
       first|exact⟨⟨j+1,by omega,by go_num,by show dq _ _ _ _;rw[L.out];exact B.out⟩,by simp[intOf];omega⟩|exact⟨⟨_,_,_,_,_,_,_,_,_,_,_,_,_,_,_,_,_,_,⟨j+1,by omega,by go_num,by show dq _ _ _ _;rw[L.out];exact B.out⟩,rfl⟩,by show 10-(intOf (.int .i64 ((j:Int)+1))).toNat<10-(intOf (.int .i64 (j:Int))).toNat;simp[intOf];omega⟩
      ·obtain rfl:j=10:=oO;have a5:∀g W,Hid (dq b W g (cO C false++(eg C false).take 10))->Hid (dq b W g (cO C false++eg C false++(fY C false).take 0)):=λg W h=>by show dq _ _ _ _;have l:=h.out;rw[List.take_of_length_le (by simp[eg];decide)]at l;simpa using l
       have a5:=a5 _ _ a;clear a;go_wp2;go_loopw [7,78] (λg m wr=>∃j:Nat,j<=10/\m= .int .i64 (j:Int)/\Hid (dq b wr g (cO C false++eg C false++(fY C false).take j))) (λ_ m _=>10-(intOf m).toNat)
       case atStart=>exact⟨0,by omega,rfl,a5.out⟩
       case round=>
        clear a5;obtain⟨j,V,rfl,a⟩:=hrel;by_cases o:j<10
        ·obtain⟨x,y,K,N,T,l,U,bt,bv⟩:=nr C false a1 2 j oO o;have L:Hid (cO C false++eg C false++(fY C false).take (j+1)=(cO C false++eg C false++(fY C false).take j)++[(x,y)]):=by show _=_;rw[js _ (0,0) (by rw[(dS C false).2.2.1];exact o),<-List.append_assoc];exact congrArg (λp=>_++[p]) K
         have O:Hid ((cO C false++eg C false++(fY C false).take j).length<=100):=by
          show _<=_;have:=dS C false;have hn:(bh false).length=10:=rfl;simp only[List.length_append,List.length_take,List.length_nil,this.1,this.2.1,this.2.2.1,this.2.2.2,hn];omega
         have D:=l rfl;have G:=D.1;have H:=D.2;obtain⟨i,ap⟩:∃i,i=10-1-j:=⟨_,rfl⟩;have b5:(9:Int)-(j:Int)=(i:Int):=oO;have a0:i<10:=oO;have dv:(i:Int)<10:=oO;have dn:IntKind.i64.wrap 9=9:=aG _ oO oO;have ds:IntKind.i64.wrap (9-(j:Int))=(i:Int):=by rw[aG _ oO oO];omega
         have M:(bh false).getD i 0=(bh false).getD ((bh false).length-1-j) 0:=by rw[ap];rfl
         rw[<-M]at G;have J:=jN (c:=false) (j:=i) a0;have Z:Hid (∀W,af b W->W.cell? (X.add i)=some (.int .i64 ((bh false).getD i 0))):=λW k=>a2.out W k _ a0;simp only[aM,Bool.false_eq_true,if_false,if_true]at G H J;generalize(bh false).getD i 0=E at*;have bx:-7<=E:=oO;have bz:E<=7:=oO;have b1:(C:Int)+7=(y:Int):=oO;clear H;clear N T l U D K M J ap b5;have av:Hid (∀W,af b W->(W.cell? ⟨w.heap.size,1,none⟩=some (.bool false)/\W.cell? ⟨w.heap.size,2,none⟩=some (.int .i64 (C:Int))/\W.cell? ⟨w.heap.size,3,none⟩=some (.int .i64 7))/\W.cell? (X.add i)=some (.int .i64 E)):=λW k=>⟨a3.out W k,Z.out W k⟩;have c2:IntKind.i64.wrap (x:Int)=(x:Int):=aG _ oO oO;have c3:IntKind.i64.wrap (y:Int)=(y:Int):=aG _ oO oO;have c4:IntKind.i64.wrap ((C:Int)+E)=(x:Int):=by rw[aG _ oO oO];omega
         have c5:IntKind.i64.wrap ((C:Int)+7)=(y:Int):=by rw[aG _ oO oO];omega
         obtain⟨c6,c7,e5⟩:=cY a.out.O;subst e5;generalize cO C false++eg C false++(fY C false).take j=Y at*;have b3:Hid (af b wr.drew):=aj a.out.B;go_wp2;refine yO (λW=>af b W) [1,2,3,4,5,6,7,8,9,10,11,12,13,14,15,0,16,17,0,18] b3.out ?_
         repeat refine zO av.out ?_
         obtain⟨F,Q⟩:∃F,F=wr.drew.alloc (.cells #[.int .i64 (x:Int),.int .i64 (y:Int)] 47):=⟨_,rfl⟩;have S:Hid (Below wr.heap.size wr F):=by show Below _ _ _;rw[Q];exact ah (aj (Below.refl _ _)) _
         obtain⟨lb,ab⟩:∃lb,lb=wr.heap.size:=⟨_,rfl⟩;have b4:Hid (∀j u,(([(x,y)]:List Pt).flatMap eY)[j]?=some u->F.cell? ((⟨lb,0,none⟩:Addr).add j)=some u):=by show∀_ _,_;rw[Q,ab];exact ga wr.drew [(x,y)] _
         refine' zQ (v:= .slice (some ⟨lb,0,none⟩) 1 1) (w':=F) rfl (by rw[Q,ab];go_simp) (ae a.out.B S.out) ?_;clear Q ab;refine' fT (ys:=[(x,y)]) (ar a.out.O S.out) (Nat.le_trans a.out.B.size S.out.size) rfl _ _ rfl rfl rfl rfl b4.out (by have:=O.out;omega) ?_;intro be bf bi r hg;have B:Hid (dq b bi (.slice be (Y.length+1) bf) (Y++[(x,y)])):=a.out.grow S.out r hg;clear r hg;refine⟨B.out.B,?_⟩;simp only[yQ,yU,yX,yY]
         repeat refine zO av.out ?_
         refine ag ?_;go_wp2;first|exact⟨⟨j+1,by omega,by go_num,by show dq _ _ _ _;rw[L.out];exact B.out⟩,by simp[intOf];omega⟩|exact⟨⟨_,_,_,_,_,_,_,_,_,_,_,_,_,_,_,_,_,_,_,_,_,_,_,⟨j+1,by omega,by go_num,by show dq _ _ _ _;rw[L.out];exact B.out⟩,rfl⟩,by show 10-(intOf (.int .i64 ((j:Int)+1))).toNat<10-(intOf (.int .i64 (j:Int))).toNat;simp[intOf];omega⟩
        ·obtain rfl:j=10:=oO;have a6:∀g W,Hid (dq b W g (cO C false++eg C false++(fY C false).take 10))->Hid (dq b W g (cO C false++eg C false++fY C false++(lP C false).take 0)):=λg W h=>by show dq _ _ _ _;have l:=h.out;rw[List.take_of_length_le (by simp[fY];decide)]at l;simpa using l
         have a6:=a6 _ _ a;clear a;go_wp2;go_loopw [7,100] (λg m wr=>∃j:Nat,j<=10/\m= .int .i64 (j:Int)/\Hid (dq b wr g (cO C false++eg C false++fY C false++(lP C false).take j))) (λ_ m _=>10-(intOf m).toNat)
         case atStart=>exact⟨0,by omega,rfl,a6.out⟩
         case round=>
          clear a6;obtain⟨j,V,rfl,a⟩:=hrel;by_cases o:j<10
          ·obtain⟨x,y,K,N,T,l,U,bt,bv⟩:=nr C false a1 3 j oO o;have L:Hid (cO C false++eg C false++fY C false++(lP C false).take (j+1)=(cO C false++eg C false++fY C false++(lP C false).take j)++[(x,y)]):=by show _=_;rw[js _ (0,0) (by rw[(dS C false).2.2.2];exact o),<-List.append_assoc];exact congrArg (λp=>_++[p]) K
           have O:Hid ((cO C false++eg C false++fY C false++(lP C false).take j).length<=100):=by
            show _<=_;have:=dS C false;have hn:(bh false).length=10:=rfl;simp only[List.length_append,List.length_take,List.length_nil,this.1,this.2.1,this.2.2.1,this.2.2.2,hn];omega
           have D:=U rfl;have G:=D.1;have H:=D.2;obtain⟨i,ap⟩:∃i,i=10-1-j:=⟨_,rfl⟩;have b5:(9:Int)-(j:Int)=(i:Int):=oO;have a0:i<10:=oO;have dv:(i:Int)<10:=oO;have dn:IntKind.i64.wrap 9=9:=aG _ oO oO;have ds:IntKind.i64.wrap (9-(j:Int))=(i:Int):=by rw[aG _ oO oO];omega
           have M:(bh false).getD i 0=(bh false).getD ((bh false).length-1-j) 0:=by rw[ap];rfl
           rw[<-M]at H;have J:=jN (c:=false) (j:=i) a0;have Z:Hid (∀W,af b W->W.cell? (X.add i)=some (.int .i64 ((bh false).getD i 0))):=λW k=>a2.out W k _ a0;simp only[aM,Bool.false_eq_true,if_false,if_true]at G H J;generalize(bh false).getD i 0=E at*;have bx:-7<=E:=oO;have bz:E<=7:=oO;have b1:(C:Int)-7=(x:Int):=oO;clear G;clear N T l U D K M J ap b5;have av:Hid (∀W,af b W->(W.cell? ⟨w.heap.size,1,none⟩=some (.bool false)/\W.cell? ⟨w.heap.size,2,none⟩=some (.int .i64 (C:Int))/\W.cell? ⟨w.heap.size,3,none⟩=some (.int .i64 7))/\W.cell? (X.add i)=some (.int .i64 E)):=λW k=>⟨a3.out W k,Z.out W k⟩;have c2:IntKind.i64.wrap (x:Int)=(x:Int):=aG _ oO oO;have c3:IntKind.i64.wrap (y:Int)=(y:Int):=aG _ oO oO;have c4:IntKind.i64.wrap ((C:Int)-7)=(x:Int):=by rw[aG _ oO oO];omega
           have c5:IntKind.i64.wrap ((C:Int)+E)=(y:Int):=by rw[aG _ oO oO];omega
           obtain⟨c6,c7,e5⟩:=cY a.out.O;subst e5;generalize cO C false++eg C false++fY C false++(lP C false).take j=Y at*;have b3:Hid (af b wr.drew):=aj a.out.B;go_wp2;refine yO (λW=>af b W) [1,2,3,4,5,6,7,8,9,10,11,12,13,14,15,0,16,17,0,18] b3.out ?_
           repeat refine zO av.out ?_
           obtain⟨F,Q⟩:∃F,F=wr.drew.alloc (.cells #[.int .i64 (x:Int),.int .i64 (y:Int)] 47):=⟨_,rfl⟩;have S:Hid (Below wr.heap.size wr F):=by show Below _ _ _;rw[Q];exact ah (aj (Below.refl _ _)) _
           obtain⟨lb,ab⟩:∃lb,lb=wr.heap.size:=⟨_,rfl⟩;have b4:Hid (∀j u,(([(x,y)]:List Pt).flatMap eY)[j]?=some u->F.cell? ((⟨lb,0,none⟩:Addr).add j)=some u):=by show∀_ _,_;rw[Q,ab];exact ga wr.drew [(x,y)] _
           refine' zQ (v:= .slice (some ⟨lb,0,none⟩) 1 1) (w':=F) rfl (by rw[Q,ab];go_simp) (ae a.out.B S.out) ?_;clear Q ab;refine' fT (ys:=[(x,y)]) (ar a.out.O S.out) (Nat.le_trans a.out.B.size S.out.size) rfl _ _ rfl rfl rfl rfl b4.out (by have:=O.out;omega) ?_;intro be bf bi r hg;have B:Hid (dq b bi (.slice be (Y.length+1) bf) (Y++[(x,y)])):=a.out.grow S.out r hg;clear r hg;refine⟨B.out.B,?_⟩;simp only[yQ,yU,yX,yY]
           repeat refine zO av.out ?_
           refine ag ?_;go_wp2;first|exact⟨⟨j+1,by omega,by go_num,by show dq _ _ _ _;rw[L.out];exact B.out⟩,by simp[intOf];omega⟩|exact⟨⟨_,_,_,_,_,_,_,_,_,_,_,_,_,_,_,_,_,_,_,_,_,_,_,⟨j+1,by omega,by go_num,by show dq _ _ _ _;rw[L.out];exact B.out⟩,rfl⟩,by show 10-(intOf (.int .i64 ((j:Int)+1))).toNat<10-(intOf (.int .i64 (j:Int))).toNat;simp[intOf];omega⟩
          ·obtain rfl:j=10:=oO;have a7:∀g W,Hid (dq b W g (cO C false++eg C false++fY C false++(lP C false).take 10))->Hid (dq b W g (cn C false)):=λg W h=>by show dq _ _ _ _;have l:=h.out;rw[List.take_of_length_le (by simp[lP];decide)]at l;rw[uu];exact l
           have a7:=a7 _ _ a;clear a;go_wp2;go_ret;exact⟨_,rfl,(fM.aI a7.out.O).mono (ae b7.out bs.out).size,ae (ae b7.out bs.out) a7.out.B⟩
theorem j5 (s C:Nat) (c:Bool) (w:World) (a:aM c<=C) (b:C<=100000000):Calls Tryz.prog 43 #[bO s c C (aM c)] w λe w'=>∃v,e= .returned v/\fM w.heap.size w' v (cn C c)/\Below w.heap.size w w':=by
 cases c with
 |true=>exact zR s C w a b
 |false=>exact xI s C w a b
def tY (L:Int) (c:Bool):Int:=if dN L c=true then 0 else 14
def qR (L:Int) (c:Bool):List Pt:=if dN L c=true then bp L.toNat c else[]
def rK (L:Int) (c:Bool):List Pt:=if dN L c=true then cn (aT L.toNat c) c else[]
def MI (w:World) (L:Int) (c:Bool) (e:Ending) (w':World):Prop:=∃v u,e= .returned (.tuple #[v,u,.int .i64 (tY L c)])/\SP w' v (qR L c)/\SP w' u (rK L c)/\Below w.heap.size w w'
theorem JN (L:Int) (c:Bool) (w:World):Calls Tryz.prog 15 #[.int .i64 L,.bool c] w (MI w L c):=by
 have g:=eP w L c;have j:Hid (∀W,Calls Tryz.prog 29 #[aP L c] W λe w'=>e= .returned (.bool (dN L c))/\Below W.heap.size W w'):=λW=>eV L c W;cases a:dN L c with
 |false=>
  have b:Hid (tY L c=14/\qR L c=[]/\rK L c=[]):=by show _/\_/\_;unfold tY qR rK;rw[a];exact⟨rfl,rfl,rfl⟩
  rw[a]at j;clear a;go_enter Tryz.func15,Tryz.ntmps15;go_wp2_with(go_at_call 29;refine(j.out _).mono ?_;rintro e z ⟨rfl,f⟩;have d:=Lib.hid f;clear f;obtain⟨q,r⟩:=g.out _ d.out)
  go_ret3
  exact⟨_,_,by rw[b.out.1];rfl,by rw[b.out.2.1];exact SP.dO _,by rw[b.out.2.2];exact SP.dO _,cP d.out⟩
 |true=>
  obtain⟨k,rfl,A,i,B⟩:=fL a;have b:Hid (tY k c=0/\qR k c=bp k c/\rK k c=cn (aT k c) c):=by show _/\_/\_;unfold tY qR rK;rw[a];exact⟨rfl,rfl,rfl⟩
  have M:=jg (c:=c) A i;have N:=gf (c:=c) i;have D:Hid (∀W,Calls Tryz.prog 46 #[aP k c] W λe w'=>∃v,e= .returned v/\fM W.heap.size w' v (bp k c)/\Below W.heap.size W w'):=λW=>vt k c W i;have O:Hid (∀W,Calls Tryz.prog 36 #[aP k c] W λe w'=>e= .returned (.int .i64 ((ai k c:Nat):Int))/\Below W.heap.size W w'):=λW=>jX k c W i;have E:Hid (∀W,Calls Tryz.prog 39 #[.int .i64 ((ai k c:Nat):Int),.bool c] W λe w'=>e= .returned (bO (ai k c) c (aT k c) (aM c))/\Below W.heap.size W w'):=λW=>dK (ai k c) c W oO oO;have F:Hid (∀W,Calls Tryz.prog 43 #[bO (ai k c) c (aT k c) (aM c)] W λe w'=>∃v,e= .returned v/\fM W.heap.size w' v (cn (aT k c) c)/\Below W.heap.size W w'):=λW=>j5 (ai k c) (aT k c) c W oO oO;rw[a]at j;generalize bp k c=dl at*;generalize cn (aT k c) c=X at*;generalize ai k c=S at*;generalize aT k c=C at*;generalize aM c=Y at*;clear a B M N;go_enter Tryz.func15,Tryz.ntmps15;go_wp2_with(go_at_call 29;refine(j.out _).mono ?_;rintro e z ⟨rfl,f⟩;have d:=Lib.hid f;clear f;obtain⟨q,r⟩:=g.out _ d.out)
  clear q r;refine yO (af (w.alloc (bE k c))) [1,3,5,0,2,4,6,7,0,8,9,10] (aj d.out) ?_
  repeat refine zO g.out ?_
  refine zZ ?_;refine(D.out _).mono ?_;rintro e G ⟨Z,rfl,l,s⟩;obtain⟨⟨ab,ac,rfl,-⟩,-⟩:=id l;have P:=Lib.hid l.1;have t:Hid (af (w.alloc (bE k c)) G):=ae (aj d.out) s;clear l s;refine⟨_,rfl,t.out,jO ?_⟩;refine zZ ?_;refine(O.out _).mono ?_;rintro e H ⟨rfl,m⟩;have Q:=Lib.hid (P.out.below m);have u:Hid (af (w.alloc (bE k c)) H):=ae t.out m;clear m;refine⟨_,rfl,u.out,jO ?_⟩;refine zZ ?_;refine(E.out _).mono ?_;rintro e J ⟨rfl,n⟩;have T:=Lib.hid (Q.out.below n);have x:Hid (af (w.alloc (bE k c)) J):=ae u.out n;clear n;refine⟨_,rfl,x.out,jO ?_⟩;refine zZ ?_;refine(F.out _).mono ?_;rintro e K ⟨ad,rfl,o,p⟩;obtain⟨⟨al,am,rfl,-⟩,-⟩:=id o;have U:=Lib.hid o.1;have V:=Lib.hid (T.out.below p);have y:Hid (af (w.alloc (bE k c)) K):=ae x.out p;clear o p;refine⟨_,rfl,y.out,jO ?_⟩
  repeat refine zO g.out ?_
  refine ag ?_;go_wp2;go_ret3
  exact⟨_,_,by rw[b.out.1];rfl,by rw[b.out.2.1];exact V.out,by rw[b.out.2.2];exact U.out,cP y.out⟩
def Nx (C:Nat) (p:Pt):Bool:=(lq p.1 C%16==0&&lq p.2 C%2==0)||(lq p.2 C%16==0&&lq p.1 C%2==0)
def nN (C:Nat) (c:Bool) (p:Pt):Bool:=if ia C p<aM c then ia C p%2==0 else !c&&Nx C p
def cB (n C:Nat) (c:Bool):List Bool:=(List.range (n* n)).map λi=>nN C c (i%n,i/n)
def cQ:List Bool:=[true,true,true,true,true,true]
def gS:List Bool:=[false,false,false,false,false,false]
def jY (n C:Nat) (c:Bool):List Bool:=wrL n (wrL n (cB n C c) (bI C (aM c)) cQ) (bg C (aM c)) gS
def rW (L:Nat) (c:Bool) (d content msg:List Bool):List Bool:=
 wrL (ai L c) (wrL (ai L c) d ((bp L c).drop ((bp L c).length-content.length)) content) (cn (aT L c) c) msg
def pQ (L:Nat) (c:Bool) (content msg:List Bool):List Bool:=rW L c (jY (ai L c) (aT L c) c) content msg
theorem iB (n C:Nat) (c:Bool):(cB n C c).length=n* n:=by unfold cB;simp
theorem kI (n C:Nat) (c:Bool):(jY n C c).length=n* n:=by unfold jY;rw[dV,dV,iB]
theorem kH (L:Nat) (c:Bool) (content msg:List Bool):(pQ L c content msg).length=ai L c* ai L c:=by unfold pQ rW;rw[dV,dV,kI]
theorem BI {n C:Nat} {c:Bool} {p:Pt} (h1:p.1<n) (a:p.2<n):(cB n C c).getD (bW n p) false=nN C c p:=by
 have b:bW n p<n* n:=iF h1 a;have hg:(cB n C c).getD (bW n p) false=nN C c (bW n p%n,bW n p/n):=by
  unfold cB;simp[List.getD,b]
 rw[hg];have e1:bW n p%n=p.1:=by unfold bW;rw[Nat.add_comm,Nat.add_mul_mod_self_right,Nat.mod_eq_of_lt h1]
 have e2:bW n p/n=p.2:=by unfold bW;rw[Nat.add_comm,Nat.add_mul_div_right _ _ oO,Nat.div_eq_of_lt h1,Nat.zero_add]
 rw[e1,e2]
theorem mA {C s:Nat} {p:Pt} (hs:5<=s) (a:s<=C) (h:p∈bI C s):ia C p=s/\p.1<2* C+1/\p.2<2* C+1/\∀t:Nat,C-s+2<=t->t+2<=C+s->p≠(t,C-s)/\p≠(C+s,t)/\p≠(t,C+s)/\p≠(C-s,t):=by
 simp only[bI,List.mem_cons,List.not_mem_nil,or_false]at h;unfold ia lq;rcases h with rfl|rfl|rfl|rfl|rfl|rfl
 all_goals simp only[Prod.mk.injEq,ne_eq]
 all_goals refine⟨by omega,by omega,by omega,λt h1 b=>⟨?_,?_,?_,?_⟩⟩<;>omega
theorem jn {C s:Nat} {p:Pt} (hs:5<=s) (a:s<=C) (h:p∈bg C s):ia C p=s/\p.1<2* C+1/\p.2<2* C+1/\∀t:Nat,C-s+2<=t->t+2<=C+s->p≠(t,C-s)/\p≠(C+s,t)/\p≠(t,C+s)/\p≠(C-s,t):=by
 simp only[bg,List.mem_cons,List.not_mem_nil,or_false]at h;unfold ia lq;rcases h with rfl|rfl|rfl|rfl|rfl|rfl
 all_goals simp only[Prod.mk.injEq,ne_eq]
 all_goals refine⟨by omega,by omega,by omega,λt h1 b=>⟨?_,?_,?_,?_⟩⟩<;>omega
theorem EY {C s:Nat} {p q:Pt} (hs:5<=s) (b:s<=C) (a:p∈bI C s) (hq:q∈bg C s):p≠q:=by
 simp only[bI,List.mem_cons,List.not_mem_nil,or_false]at a;simp only[bg,List.mem_cons,List.not_mem_nil,or_false]at hq;rcases a with rfl|rfl|rfl|rfl|rfl|rfl<;>rcases hq with rfl|rfl|rfl|rfl|rfl|rfl<;>simp only[ne_eq,Prod.mk.injEq]<;>omega
theorem EX {C s:Nat} (hs:5<=s) (a:s<=C):(bI C s).Nodup:=by
 simp only[bI,List.nodup_cons,List.mem_cons,List.not_mem_nil,or_false,Prod.mk.injEq,not_false_eq_true,List.nodup_nil,and_true];refine⟨?_,?_,?_,?_,?_⟩<;>omega
theorem CQ {C s:Nat} (hs:5<=s) (a:s<=C):(bg C s).Nodup:=by
 simp only[bg,List.nodup_cons,List.mem_cons,List.not_mem_nil,or_false,Prod.mk.injEq,not_false_eq_true,List.nodup_nil,and_true];refine⟨?_,?_,?_,?_,?_⟩<;>omega
theorem oh (c:Bool):5<=aM c:=by rcases Ep c with h|h<;>omega
theorem Dd {C:Nat} {c:Bool} (a:aM c<=C) {p:Pt} (h:p∈bg C (aM c)):nN C c p=false:=by
 have h1:=(jn (oh c) a h).1;unfold nN;rw[if_neg oO];cases c with
 |true=>rfl
 |false=>
  simp only[aM,Bool.false_eq_true,if_false]at h a⊢;simp only[bg,List.mem_cons,List.not_mem_nil,or_false]at h;unfold Nx lq;rcases h with rfl|rfl|rfl|rfl|rfl|rfl<;>simp only[Bool.not_false,Bool.true_and,Bool.or_eq_false_iff,Bool.and_eq_false_iff,beq_eq_false_iff_ne]<;>omega
theorem JQ {d:List Bool} {i:Nat} {b:Bool} (h:d.getD i false=b) (a:i<d.length):d.set i b=d:=by
 subst h;apply List.ext_getElem oS;intro j h1 f;rw[List.getElem_set];split
 ·rename_i e;subst e;simp[List.getD,a]
 ·rfl
theorem vx (W:Nat):∀(d:List Bool) (ps:List Pt) (a:List Bool),(∀p∈ps,bW W p<d.length)->cE W d ps=a->wrL W d ps a=d
 |d,[],a,_,_=>mD _ _ _
 |d,p::ps,[],_,h=>by cases h
 |d,p::ps,b::a,h1,h=>by
  injection h with e f;show wrL W (d.set (bW W p) b) ps a=d;rw[JQ e (h1 p (List.mem_cons_self ..))];exact vx W d ps a (λq hq=>h1 q (List.mem_cons_of_mem _ hq)) f
theorem ML {W:Nat} {d:List Bool} {ps:List Pt} {a:List Bool} (hl:ps.length=a.length) (h:∀i,i<ps.length->d.getD (bW W (ps.getD i (0,0))) false=a.getD i false):cE W d ps=a:=by
 unfold cE;apply List.ext_getElem (by simpa using hl);intro i h1 e;have b:i<ps.length:=by simpa using h1
 have:=h i b;simpa[List.getD,b,e]using this
theorem yy {n C:Nat} {c:Bool} (a:aM c<=C) (hn:n=2* C+1):jY n C c=wrL n (cB n C c) (bI C (aM c)) cQ:=by
 unfold jY;refine vx _ _ _ _ (λp b=>?_) ?_
 ·have h:=jn (oh c) a b;rw[dV,iB];exact iF oO oO
 ·rw[uQ]
  ·refine ML rfl λi d=>?_;have f:(bg C (aM c)).getD i (0,0)∈bg C (aM c):=by
    simp only[List.getD,List.getElem?_eq_getElem d,Option.getD_some];exact List.getElem_mem d
   have h:=jn (oh c) a f;rw[BI oO oO,Dd a f];have j:i<6:=d;obtain rfl|rfl|rfl|rfl|rfl|rfl:i=0\/i=1\/i=2\/i=3\/i=4\/i=5:=oO
   all_goals rfl
  ·intro q hq p b e;have h:=jn (oh c) a hq;have g:=mA (oh c) a b;exact EY (oh c) a b hq (oH oO oO e)
theorem Ms {n C:Nat} {c:Bool} (a:aM c<=C) (hn:n=2* C+1) {p:Pt} (h1:p.1<n) (d:p.2<n) (h:ia C p≠aM c):(jY n C c).getD (bW n p) false=nN C c p:=by
 rw[yy a hn,jZ,BI h1 d];intro q hq e;have b:=mA (oh c) a hq;have:=oH oO h1 e;rw[this]at b;exact h b.1
theorem Iz {n C:Nat} {c:Bool} (a:aM c<=C) (hn:n=2* C+1):cE n (jY n C c) (bI C (aM c))=cQ:=by
 rw[yy a hn];refine uk _ _ _ _ rfl (λp b=>?_) (oE (EX (oh c) a) λp b=>?_)
 ·have h:=mA (oh c) a b;rw[iB];exact iF oO oO
 ·have h:=mA (oh c) a b;omega
theorem Fh {n C:Nat} {c:Bool} (a:aM c<=C) (hn:n=2* C+1):cE n (jY n C c) (bg C (aM c))=gS:=by
 unfold jY;refine uk _ _ _ _ rfl (λp b=>?_) (oE (CQ (oh c) a) λp b=>?_)
 ·have h:=jn (oh c) a b;rw[dV,iB];exact iF oO oO
 ·have h:=jn (oh c) a b;omega
section
variable {L : Nat} {c : Bool} (h1 : 1 ≤ L) (hL : L ≤ 32) {content msg : List Bool} (hc : content.length ≤ (bp L c).length)
include h1 hL
theorem zd {d:List Bool} {q:Pt} (b:q.1<ai L c) (f:q∉bp L c) (g:q∉cn (aT L c) c):(rW L c d content msg).getD (bW (ai L c) q) false=d.getD (bW (ai L c) q) false:=by
 have hs:=jg (c:=c) h1 hL;unfold rW;rw[jZ,jZ]
 ·intro p a e;have a:=List.mem_of_mem_drop a;exact f (oH (jk hL a).1 b e▸a)
 ·intro p a e;have:=kj (c:=c) (C:=aT L c) oO a;exact g (oH oO b e▸a)
theorem J5 {d:List Bool} (b:d.length=ai L c* ai L c) (e:msg.length=(cn (aT L c) c).length):cE (ai L c) (rW L c d content msg) (cn (aT L c) c)=msg:=by
 have hs:=jg (c:=c) h1 hL;unfold rW;refine uk _ _ _ _ e.symm (λp a=>?_) (oE (E1 oO) λp a=>?_)
 ·have:=kj (c:=c) (C:=aT L c) oO a;rw[dV,b];exact iF oO oO
 ·have:=kj (c:=c) (C:=aT L c) oO a;omega
theorem GG {p q:Pt} (a:p∈cn (aT L c) c) (hq:q∈bp L c):bW (ai L c) p≠bW (ai L c) q:=λe=>by
 have hs:=jg (c:=c) h1 hL;have d:=kj (c:=c) (C:=aT L c) oO a;have b:=xD (c:=c) (C:=aT L c) oO a;have f:=oU hL hq;rw[oH oO (jk hL hq).1 e]at b;omega
include hc in
theorem IT {d:List Bool} (hd:d.length=ai L c* ai L c):cE (ai L c) (rW L c d content msg) ((bp L c).drop ((bp L c).length-content.length))=content:=by
 unfold rW;rw[uQ _ _ _ _ _ λq hq p hp=>GG h1 hL hp (List.mem_of_mem_drop hq)];refine uk _ _ _ _ (by rw[List.length_drop];omega) (λp hp=>?_) (oE ((List.drop_sublist _ _).nodup (vZ hL)) λp hp=>?_)
 ·have:=jk hL (List.mem_of_mem_drop hp);rw[hd];exact iF this.1 this.2
 ·exact(jk hL (List.mem_of_mem_drop hp)).1
theorem LL {p:Pt} (b:p.1<ai L c) (d:p.2<ai L c) (h:ia (aT L c) p<aM c):(pQ L c content msg).getD (bW (ai L c) p) false=(ia (aT L c) p%2==0):=by
 have hs:=jg (c:=c) h1 hL;unfold pQ;rw[zd h1 hL b (λa=>by have:=oU hL a;omega) (λa=>by have:=xD oO a;omega),Ms oO oO b d oO];unfold nN;rw[if_pos h]
theorem B5 {p:Pt} (h:p∈bI (aT L c) (aM c)\/p∈bg (aT L c) (aM c)):p.1<ai L c/\p.2<ai L c/\p∉bp L c/\p∉cn (aT L c) c:=by
 have hs:=jg (c:=c) h1 hL;have b:ia (aT L c) p=aM c/\p.1<2* aT L c+1/\p.2<2* aT L c+1/\∀t:Nat,aT L c-aM c+2<=t->t+2<=aT L c+aM c->p≠(t,aT L c-aM c)/\p≠(aT L c+aM c,t)/\p≠(t,aT L c+aM c)/\p≠(aT L c-aM c,t):=by
  rcases h with h|h
  ·exact mA (oh c) oO h
  ·exact jn (oh c) oO h
 refine⟨by omega,by omega,λa=>by have:=oU hL a;omega,λa=>?_⟩;obtain⟨t,d,f,g⟩:=vg oO a;have:=b.2.2.2 t d f;rcases g with e|e|e|e
 ·exact this.1 e
 ·exact this.2.1 e
 ·exact this.2.2.1 e
 ·exact this.2.2.2 e
theorem yu {d:List Bool} {ps:List Pt} (h:∀p∈ps,p∈bI (aT L c) (aM c)\/p∈bg (aT L c) (aM c)):cE (ai L c) (rW L c d content msg) ps=cE (ai L c) d ps:=
 List.map_congr_left λp a=>by
  have:=B5 h1 hL (h p a);exact zd h1 hL this.1 this.2.2.1 this.2.2.2
theorem JT:cE (ai L c) (pQ L c content msg) (bI (aT L c) (aM c))=cQ:=by
 have hs:=jg (c:=c) h1 hL;unfold pQ;rw[yu h1 hL λp a=> .inl a,Iz oO oO]
theorem GA:cE (ai L c) (pQ L c content msg) (bg (aT L c) (aM c))=gS:=by
 have hs:=jg (c:=c) h1 hL;unfold pQ;rw[yu h1 hL λp a=> .inr a,Fh oO oO]
end
def G0 (a b:Int):Int:=if b>a then b else a
def Kp (a b c d:Int):Int:=G0 (G0 (G0 a b) c) d
theorem Ix (e:Array TypeId) (t:TypeId) (a b c d:Int) (w:World):(Builtin.max_ e t #[.int .i64 a,.int .i64 b,.int .i64 c,.int .i64 d]).run Tryz.prog w= .ok (.int .i64 (Kp a b c d)) w:=by
 simp[Builtin.max_,Builtin.max2,Kp,G0]
theorem LW (x y C:Nat):Kp ((x:Int)-C) ((C:Int)-x) ((y:Int)-C) ((C:Int)-y)=((ia C (x,y):Nat):Int):=by
 unfold ia lq Kp G0;simp only
 (repeat' split)<;>omega
theorem sS (s C m x y:Nat) (c:Bool) (w:World) (d:C<=1000000) (f:x<=1000000) (g:y<=1000000):Calls Tryz.prog 86 #[bO s c C m,.int .i64 x,.int .i64 y] w λe w'=>e= .returned (.int .i64 ((ia C (x,y):Nat):Int))/\Below w.heap.size w w':=by
 have a:=Lib.hid (LW x y C);have b:Hid (Below w.heap.size w (w.alloc (.cells #[.int .i64 (s:Int),.bool c,.int .i64 (C:Int),.int .i64 (m:Int)] 71))):=ax _ _;have i:=Ix;go_enter Tryz.func86,Tryz.ntmps86;go_wp2;go_ret;exact⟨dg a.out,b.out⟩
theorem uA (d:Nat) (w:World) (b:d<=1000000):Calls Tryz.prog 87 #[.int .i64 d] w λe w'=>e= .returned (.bool (d%2==0))/\w'=w:=by
 have a:Hid (((d:Int)%2==0)=(d%2==0)):=by
  show _=_;rw[Bool.eq_iff_iff];simp;omega
 go_enter Tryz.func87,Tryz.ntmps87;go_wp2;exact bodyPost_ret (v:= .bool ((d:Int)%2==0)) (by simp[results,Tryz.results87,go_sem]) rfl ⟨by rw[a.out],rfl⟩
def Ku (a b:Int):Bool:=(a.tmod 16==0&&b.tmod 2==0)||(b.tmod 16==0&&a.tmod 2==0)
theorem tmod_zero (x C:Nat) (k:Nat) (a:k≠0):(((x:Int)-(C:Int)).tmod (k:Int)==0)=(lq x C%k==0):=by
 rw[Bool.eq_iff_iff,beq_iff_eq,beq_iff_eq,<-Int.dvd_iff_tmod_eq_zero];have h:((k:Int)∣((x:Int)-(C:Int)))↔((k:Int)∣((lq x C:Nat):Int)):=by
  unfold lq;rcases Nat.le_total x C with h|h
  ·have e:(((x-C)+(C-x):Nat):Int)=-((x:Int)-(C:Int)):=oO;rw[e,Int.dvd_neg]
  ·have e:(((x-C)+(C-x):Nat):Int)=((x:Int)-(C:Int)):=oO;rw[e]
 rw[h,Int.natCast_dvd_natCast];exact⟨λh=>Nat.mod_eq_zero_of_dvd h,λh=>Nat.dvd_of_mod_eq_zero h⟩
theorem LB (x y C:Nat):Ku ((x:Int)-C) ((y:Int)-C)=Nx C (x,y):=by
 unfold Ku Nx;have a:=tmod_zero x C 16 oO;have b:=tmod_zero y C 2 oO;have c:=tmod_zero y C 16 oO;have d:=tmod_zero x C 2 oO;rw[show((16:Nat):Int)=16 from rfl]at a c;rw[show((2:Nat):Int)=2 from rfl]at b d;rw[a,b,c,d]
theorem uq (s C m:Nat) (c:Bool) (d f:Int) (w:World):Calls Tryz.prog 133 #[bO s c C m,.int .i64 d,.int .i64 f] w λe w'=>e= .returned (.bool (Ku d f))/\Below w.heap.size w w':=by
 have n:Hid (Below w.heap.size w (w.alloc (.cells #[.int .i64 (s:Int),.bool c,.int .i64 (C:Int),.int .i64 (m:Int)] 71))):=ax _ _;have j:Hid (Ku d f=((d.tmod 16==0&&f.tmod 2==0)||(f.tmod 16==0&&d.tmod 2==0))):=rfl;have g (a:Int):IntKind.i64.wrap (a.tmod 16)=a.tmod 16:=by
  have k:=Int.tmod_lt_of_pos a (show(0:Int)<16 by omega);have l:-16<a.tmod 16:=by have:=Int.lt_tmod_of_pos a (show(0:Int)<16 by omega);exact this
  exact aG _ oO oO
 have i (a:Int):IntKind.i64.wrap (a.tmod 2)=a.tmod 2:=by
  have k:=Int.tmod_lt_of_pos a (show(0:Int)<2 by omega);have l:-2<a.tmod 2:=by have:=Int.lt_tmod_of_pos a (show(0:Int)<2 by omega);exact this
  exact aG _ oO oO
 have k:=g d;have l:=g f;have u:=i d;have v:=i f;clear g i;generalize x:d.tmod 16=a at*;generalize hb:f.tmod 16=b at*;generalize hc:d.tmod 2=p at*;generalize y:f.tmod 2=q at*;cases o:(a==0)<;>cases eb:(b==0)<;>cases r:(p==0)<;>cases t:(q==0)
 all_goals
  rw[o,eb,r,t]at j;go_enter Tryz.func133,Tryz.ntmps133;go_wp2;go_ret;exact⟨bP (by rw[j.out];rfl),n.out⟩
def bu (w:World) (db:Nat) (l:List Bool):Prop:=aa w db (l.map vB).toArray 4
structure aD (db:Nat) (w w':World):Prop where
 sz:w.heap.size<=w'.heap.size
 bl:∀k,k<w.heap.size->k≠db->w'.heap[k]?=w.heap[k]?
 os:w'.os=w.os
 tape:w'.tape=w.tape
 output:w'.output=w.output
theorem aD.refl (db:Nat) (w:World):aD db w w:=⟨Nat.le_refl _,λ_ _ _=>rfl,rfl,rfl,rfl⟩
theorem aD.trans {db:Nat} {a b c:World} (h:aD db a b) (d:aD db b c):aD db a c:=⟨Nat.le_trans h.sz d.sz,λk e hn=>(d.bl k (Nat.lt_of_lt_of_le e h.sz) hn).trans (h.bl k e hn),d.os.trans h.os,d.tape.trans h.tape,d.output.trans h.output⟩
theorem aD.below {db:Nat} {w W:World} (h:Below w.heap.size w W):aD db w W:=⟨h.size,λk a _=>h.block k a,h.os,h.tape,h.output⟩
theorem aD.fm {db i:Nat} {w:World} (u:Value):aD db w (w.setCell ⟨db,i,none⟩ u):=⟨by simp,λk a hn=>Below.heap_setCell _ _ _ _ hn,rfl,rfl,rfl⟩
theorem aD.cell {db:Nat} {w W:World} (h:aD db w W) {a:Addr} (b:a.block<w.heap.size) (hn:a.block≠db):W.cell? a=w.cell? a:=by
 have e:W.heap[a.block]?=w.heap[a.block]?:=h.bl _ b hn;exact World.cell?_of_block e
theorem aD.row {db g:Nat} {w W:World} {b:Array Value} {t:TypeId} (h:aD db w W) (a:aa w g b t) (hn:g≠db):aa W g b t:=(h.bl _ (au a) hn).trans a
theorem aD.to {db B:Nat} {w W:World} (h:aD db w W) (hb:B<=db) (a:B<=w.heap.size):Below B w W:=⟨h.os,h.tape,h.output,h.sz,λk b=>h.bl k (Nat.lt_of_lt_of_le b a) oO⟩
theorem bu.cell {w:World} {db:Nat} {l:List Bool} (h:bu w db l) {i:Nat} (a:i<l.length):w.cell? ⟨db,i,none⟩=some (.bool (l.getD i false)):=by
 refine aa.cell h i _ ?_;simp[List.getD,a,vB]
theorem bu.set {w:World} {db:Nat} {l:List Bool} (h:bu w db l) (i:Nat) (b:Bool):bu (w.setCell ⟨db,i,none⟩ (.bool b)) db (l.set i b):=by
 have:=heap_setCell_same w db i _ _ (.bool b) h;unfold bu aa;rw[this];simp[List.map_set,vB]
theorem bu.below {w W:World} {db:Nat} {l:List Bool} (h:bu w db l) (hb:Below w.heap.size w W):bu W db l:=aa.below h hb
theorem qe {a:Act} {b:Oper} {W:World} {x q:Operand} (c:b.op= .store 4 q x) (p:Addr) (v:Bool) (hq:a.eval q= .pointer (some p)) (d:a.eval x= .bool v) {u:Value} (hc:W.cell? p=some u) (e:W.frozen? p=false):
 (execOp a.eval b).run Tryz.prog W= .ok .skip (W.setCell p (.bool v)):=by
 unfold execOp;simp only[c,hq,d,Instr.storeAt,Instr.sureAddr,Sem.run_bind,Sem.run_pure,Result.andThen_ok];go_simp
abbrev ER (n H db N:Nat):Value:= .agg #[.int .i64 (n:Int),.int .i64 (H:Int),.slice (some ⟨db,0,none⟩) N N]
abbrev Nf (n H db N:Nat):Obj:= .cells #[.int .i64 (n:Int),.int .i64 (H:Int),.slice (some ⟨db,0,none⟩) N N] 28
theorem yS (n H db N m k:Nat) (l:List Bool) (ps:List Pt) (d:List Bool) (v:Value) (B:Option Addr) (w:World) (hn:n<=1000) (cs:H<=1000) (a1:N=l.length) (c3:N<=100000000) (P:bu w db l) (bx:SP w v ps) (a5:∀A m k o,v= .slice A m k->A=some o->o.block≠db)
 (hb:SR vB false w B m k d) (a6:∀o,B=some o->o.block≠db) (bs:ps.length=d.length) (a7:∀p∈ps,bW n p<l.length):
 Calls Tryz.prog 84 #[ER n H db N,v,.slice B m k] w λe w'=>e= .returned (.tuple #[])/\bu w' db (wrL n l ps d)/\aD db w w':=by
 obtain⟨A,c,rfl,a8,b4,a2⟩:=bx;obtain⟨Q,X⟩:∃Q,Q=ps.length:=⟨_,rfl⟩;rw[<-X]at a8⊢;have b5:=hb.hn;have b6:m=Q:=oO;subst b6;have t:=Lib.hid X;have O:=Lib.hid bs;have bz:=Lib.hid P;have b1:=Lib.hid a2;have b7:=Lib.hid hb.rd;have b8:Hid (∀o,A=some o->o.block≠db):=λo e=>a5 A _ _ o rfl e;have b9:=Lib.hid a6;have ca:=Lib.hid a7;have a3:=Lib.hid a1;have c7:m<=9223372036854775807:=by unfold maxLen at*;omega
 have a9:db<w.heap.size:=au P;clear P a2 hb a5 a6 a7 bs X b5 a8 b4 a1;obtain⟨i,F⟩:∃i,i=w.alloc (Nf n H db N):=⟨_,rfl⟩;have Y:Hid (Below w.heap.size w i):=by show Below _ _ _;rw[F];exact ax _ _
 have Z:Hid (aa i w.heap.size #[.int .i64 (n:Int),.int .i64 (H:Int),.slice (some ⟨db,0,none⟩) N N] 28):=by show aa _ _ _ _;rw[F];exact aa.new _ _ _ _ oS
 have bb:Hid (bu i db (wrL n l (ps.take 0) (d.take 0))/\aD db i i):=by
  show _/\_;rw[List.take_zero,mD];exact⟨bz.out.below Y.out,aD.refl _ _⟩
 have cb:=Lib.hid a9;go_enter Tryz.func84,Tryz.ntmps84;go_wp2;rw[<-F];clear F a9;go_loopw [10] (λS wr=>∃j:Nat,j<=m/\S= .int .i64 j/\Hid (bu wr db (wrL n l (ps.take j) (d.take j))/\aD db i wr)) (λS _=>m-(intOf S).toNat)
 case atStart=>exact⟨0,Nat.zero_le _,rfl,bb.out⟩
 case round=>
  clear bb;obtain⟨j,cv,rfl,u⟩:=hrel;by_cases z:j<m
  ·obtain⟨g,D,rfl,G,bd⟩:=b1.out (by rw[<-t.out];omega);obtain⟨x,rfl,ab,be⟩:=b7.out (by rw[<-O.out,<-t.out];omega);have T:=bd j (by rw[<-t.out];exact z);have a4:=be j (by rw[<-O.out,<-t.out];exact z);have bf:g≠db:=b8.out _ rfl;have bt:x.block≠db:=b9.out _ rfl;have bi:ps.getD j (0,0)∈ps:=by
    have:j<ps.length:=by rw[<-t.out];exact z
    simp only[List.getD,List.getElem?_eq_getElem this,Option.getD_some];exact List.getElem_mem this
   have ap:=ca.out _ bi;have bv:Hid (wrL n l (ps.take (j+1)) (d.take (j+1))=(wrL n l (ps.take j) (d.take j)).set (bW n (ps.getD j (0,0))) (d.getD j false)):=vp n l ps d (by rw[<-t.out];exact z) (by rw[<-O.out,<-t.out];exact z);have bo:Hid ((wrL n l (ps.take j) (d.take j)).length=l.length):=dV _ _ _ _;generalize ps.getD j (0,0)=p at*;generalize d.getD j false=b at*;generalize wrL n l (ps.take j) (d.take j)=U at*;have y:aD db w wr:=(aD.below Y.out).trans u.out.2;have e1:wr.cell? ⟨g,D+j* 2,none⟩=some (.int .i64 (p.1:Int)):=(y.cell (a:=⟨g,D+j* 2,none⟩) G bf).trans T.1;have e2:wr.cell? ⟨g,D+j* 2+1,none⟩=some (.int .i64 (p.2:Int)):=(y.cell (a:=⟨g,D+j* 2+1,none⟩) G bf).trans T.2;have e3:wr.cell? (x.add j)=some (.bool b):=(y.cell (a:=x.add j) (by rw[aL];exact ab) (by rw[aL];exact bt)).trans a4;have ce:g<wr.heap.size:=Nat.lt_of_lt_of_le G y.sz;have ac:x.block<wr.heap.size:=Nat.lt_of_lt_of_le ab y.sz;obtain⟨f,J⟩:∃f,f=wr.alloc (.cells #[.int .i64 (p.1:Int),.int .i64 (p.2:Int)] 47):=⟨_,rfl⟩;obtain⟨s,K⟩:∃s,s=wr.heap.size:=⟨_,rfl⟩;have C:Hid (Below wr.heap.size wr f):=by show Below _ _ _;rw[J];exact ax _ _
   have L:Hid (aa f s #[.int .i64 (p.1:Int),.int .i64 (p.2:Int)] 47):=by show aa _ _ _ _;rw[J,K];exact aa.new _ _ _ _ oS
   have ch:Hid (bu f db U):=u.out.1.below C.out;have M:w.heap.size<i.heap.size:=au Z.out;have bq:w.heap.size≠db:=by have:=cb.out;omega
   have ci:w.heap.size<f.heap.size:=Nat.lt_of_lt_of_le (Nat.lt_of_lt_of_le M u.out.2.sz) C.out.size;have ad:aD db i f:=u.out.2.trans (aD.below C.out);have av:s≠db:=by rw[K];have V:=au u.out.1;omega
   have b2:Hid (∀W,aD db f W->(W.cell? ⟨w.heap.size,0,none⟩=some (.int .i64 (n:Int))/\W.cell? ⟨w.heap.size,2,none⟩=some (.slice (some ⟨db,0,none⟩) N N))/\(W.cell? ⟨s,0,none⟩=some (.int .i64 (p.1:Int))/\W.cell? ⟨s,1,none⟩=some (.int .i64 (p.2:Int)))/\W.cell? (x.add j)=some (.bool b)):=by
    show∀W,_;intro W E;have V:=ad.trans E;refine⟨⟨(V.cell (a:=⟨w.heap.size,0,none⟩) M bq).trans (Z.out.cell 0 _ rfl),(V.cell (a:=⟨w.heap.size,2,none⟩) M bq).trans (Z.out.cell 2 _ rfl)⟩,⟨(E.cell (a:=⟨s,0,none⟩) (au L.out) av).trans (L.out.cell 0 _ rfl),(E.cell (a:=⟨s,1,none⟩) (au L.out) av).trans (L.out.cell 1 _ rfl)⟩,?_⟩;exact(E.cell (a:=x.add j) (by rw[aL];exact Nat.lt_of_lt_of_le ac C.out.size) (by rw[aL];exact bt)).trans ((C.out.cell (by rw[aL];exact ac)).trans e3)
   obtain⟨q,hq⟩:∃q,q=p.2* n:=⟨_,rfl⟩;obtain⟨r,a0⟩:∃r,r=bW n p:=⟨_,rfl⟩;have ck:r=q+p.1:=by rw[a0,hq];rfl
   rw[<-a0]at ap bv;rw[<-a3.out]at ap;have c4:q<=100000000:=oO;have c5:(p.2:Int)* (n:Int)=(q:Int):=by rw[hq];simp
   have cx:IntKind.i64.wrap (q:Int)=(q:Int):=aG _ oO oO;have c2:IntKind.i64.wrap ((q:Int)+(p.1:Int))=(r:Int):=by rw[aG _ oO oO];omega
   have c8:(r:Int)<(N:Int):=oO;have cp:Hid (r<U.length):=by show _<_;rw[bo.out,<-a3.out];exact ap
   have c6:(j:Int)<(m:Int):=oO;clear hq a0 ck bd be T a4 bi bo;have co:=Lib.hid ad;clear ad y ci av;go_wp2;rw[<-J,<-K];clear J K e1 e2 e3 M ce ac G ab;have al:Hid (aD db f f.drew):=aD.below (aj (Below.refl _ _));refine yO (λW=>aD db f W) [1,2,3,4,5,6,7,8,9,10,11,12,13,14,15,0,16] al.out ?_
   repeat refine zO b2.out ?_
   have am:Hid (bu f.drew db U):=ch.out.below (aj (Below.refl _ _));refine' ba (w':=f.drew.setCell ⟨db,r,none⟩ (.bool b)) rfl (qe rfl ⟨db,r,none⟩ b rfl rfl (am.out.cell cp.out) (frozen_of_row _ _ _ _ _ am.out)) (al.out.trans (aD.fm _)) ?_;simp only[yQ,yU,yX,yY];refine ag ?_;have cq:Hid (bu (f.drew.setCell ⟨db,r,none⟩ (.bool b)) db (wrL n l (ps.take (j+1)) (d.take (j+1)))/\aD db i (f.drew.setCell ⟨db,r,none⟩ (.bool b))):=by
    show _/\_;rw[bv.out];exact⟨am.out.set _ _,(co.out.trans al.out).trans (aD.fm _)⟩
   go_wp2;exact⟨⟨j+1,by omega,by go_num,cq.out⟩,by simp[intOf];omega⟩
  ·obtain rfl:j=m:=oO;have b3:Hid (wrL n l (ps.take j) (d.take j)=wrL n l ps d):=by show _=_;rw[t.out,List.take_length,O.out,List.take_length]
   go_wp2;refine bodyPost_end (results_none rfl _ _ _) rfl ?_;exact⟨rfl,by rw[<-b3.out];exact u.out.1,(aD.below Y.out).trans u.out.2⟩
end
end Go.Proofs.YtmnlkganmgcpbaaGreatDoor
