import Derived.Test.YtmnlkganmgcpbaaGreatDoorQm20
set_option maxRecDepth 100000
set_option maxHeartbeats 4000000
set_option linter.unusedVariables false
set_option linter.unusedSectionVars false
set_option linter.unusedSimpArgs false
namespace Go.Proofs.YtmnlkganmgcpbaaGreatDoor
section
open Go.RowKit
theorem SP.lit (W:World) (ys:List Pt) (t:TypeId) (b n:Nat) (hb:b=W.heap.size) (hn:n=ys.length) (d:n<=maxLen):SP (W.alloc (.cells (ys.flatMap eS).toArray t)) (.slice (some ⟨b,0,none⟩) n n) ys:=by
 subst hb hn;refine⟨_,_,rfl,Nat.le_refl _,d,λ_=>⟨_,0,rfl,by simp,λj e=>?_⟩⟩;have h:=BM ys j e;have a:=gh W ys t _ _ h.1;have c:=gh W ys t _ _ h.2;rw[add_plain,Nat.zero_add]at a c;rw[Nat.zero_add,Nat.mul_comm];exact⟨a,c⟩
theorem vJ (s C m:Nat) (c:Bool) (w:World) (H:m<=C) (K:C<=1000000) (J:5<=m):Calls Tryz.prog 88 #[fQ s c C m] w λe w'=>∃v u,e= .returned (.tuple #[v,u])/\fN w.heap.size w' v (cO C m)/\fN w.heap.size w' u (cJ C m)/\Below w.heap.size w w':=by
 obtain⟨a,o⟩:∃a,a=C-m:=⟨_,rfl⟩;obtain⟨f,p⟩:∃f,f=C-m+1:=⟨_,rfl⟩;obtain⟨b,hb⟩:∃b,b=C+m:=⟨_,rfl⟩;obtain⟨i,q⟩:∃i,i=C+m-1:=⟨_,rfl⟩;have e1:(C:Int)-(m:Int)=(a:Int):=oO;have e2:(a:Int)+1=(f:Int):=oO;have e3:(C:Int)+(m:Int)=(b:Int):=oO;have e4:(b:Int)-1=(i:Int):=oO;have y:Hid (cO C m=[(a,a),(f,a),(a,f),(b,a),(b,f),(b,i)]):=by show _=_;rw[o,p,hb,q];rfl
 have z:Hid (cJ C m=[(i,a),(b,b),(i,b),(a,b),(f,b),(a,i)]):=by show _=_;rw[o,p,hb,q];rfl
 have L:a<=10000000:=oO;have M:b<=10000000:=oO;have O:f<=10000000:=oO;have P:i<=10000000:=oO;clear o p hb q;obtain⟨g,n⟩:∃g,g=w.alloc (.cells #[.int .i64 (s:Int),.bool c,.int .i64 (C:Int),.int .i64 (m:Int)] 71):=⟨_,rfl⟩;have E:Hid (Below w.heap.size w g):=by show Below _ _ _;rw[n];exact ax _ _
 have t:Hid (ae g w.heap.size #[.int .i64 (s:Int),.bool c,.int .i64 (C:Int),.int .i64 (m:Int)] 71):=by show ae _ _ _ _;rw[n];exact ae.new _ _ _ _ oS
 have B:Hid (∀W,af g W->W.cell? ⟨w.heap.size,2,none⟩=some (.int .i64 (C:Int))/\W.cell? ⟨w.heap.size,3,none⟩=some (.int .i64 (m:Int))):=λW j=>⟨(t.out.below j).cell 2 _ rfl,(t.out.below j).cell 3 _ rfl⟩;have x:Hid (Below w.heap.size w g.drew):=ai E.out;go_enter Tryz.func88,Tryz.ntmps88;go_wp2;rw[<-n];clear n;refine yO (af g) [1,2,3,4,5,6] (ai (Below.refl _ _)) ?_
 repeat refine zO B.out ?_
 refine ag ?_;have N:=Lib.hid x.out.size;have F:Hid (∀W:World,Below w.heap.size w W->Below w.heap.size w (W.alloc (.cells ((cO C m).flatMap eS).toArray 47))/\fN w.heap.size (W.alloc (.cells ((cO C m).flatMap eS).toArray 47)) (.slice (some ⟨W.heap.size,0,none⟩) 6 6) (cO C m)):=by
  show∀W:World,_;intro W j;exact⟨ah j _,SP.lit W _ _ _ 6 rfl rfl oM,λA m k D d l=>by injection d with d _ _;rw[l]at d;injection d with d;rw[<-d];exact j.size⟩
 have G:Hid (∀W:World,Below w.heap.size w W->Below w.heap.size w (W.alloc (.cells ((cJ C m).flatMap eS).toArray 47))/\fN w.heap.size (W.alloc (.cells ((cJ C m).flatMap eS).toArray 47)) (.slice (some ⟨W.heap.size,0,none⟩) 6 6) (cJ C m)):=by
  show∀W:World,_;intro W j;exact⟨ah j _,SP.lit W _ _ _ 6 rfl rfl oM,λA m k D d l=>by injection d with d _ _;rw[l]at d;injection d with d;rw[<-d];exact j.size⟩
 go_wp2;go_ret2
 have d:=F.out g.drew x.out;have l:=G.out _ d.1;rw[y.out]at d l⊢;rw[z.out]at l⊢;have r:=l.2;rw[show(g.drew.alloc (.cells (([(a,a),(f,a),(a,f),(b,a),(b,f),(b,i)]:List Pt).flatMap eS).toArray 47)).heap.size=g.heap.size+1 from by simp]at r;exact⟨_,_,rfl,d.2.below (ax _ _),r,l.1⟩
theorem vH {d:Array Oper} {S:World->Prop} {K:Act->World->Prop} {r:List (Bool×Nat×Oper)} {k:Nat} {b:Oper} {a:Act} {W:World} {l c:Operand} (i:Region.wanted b (yielded d a.tmps)=true) (e:b.op= .makeSlice 26 l c) (n:Nat) (hn:n<=100000000) (hl:a.eval l= .int .i64 (n:Int)) (hc:a.eval c= .int .i64 (n:Int))
 (f:S (W.alloc (.cells ((List.replicate n false).map vB).toArray 4))) (g:bC Tryz.prog d S K r (a.put b.dst (.slice (some ⟨W.heap.size,0,none⟩) n n)) (W.alloc (.cells ((List.replicate n false).map vB).toArray 4))):bC Tryz.prog d S K ((true,k,b)::r) a W:=by
 refine gK i ?_ f g;have h:=vx n hn W;unfold execOp;simp only[e,hl,hc,Sem.run_bind,Sem.run_pure,Result.andThen_ok,h]
theorem fR {i:Array Oper} {S:World->Prop} {K:Act->World->Prop} {r:List (Bool×Nat×Oper)} {k:Nat} {d:Oper} {a:Act} {W:World} (g:TypeId) (y:Region.wanted d (yielded i a.tmps)=true) (p x:Operand) (l:d.op= .store g p x) (t:TypeId) (b:Nat) (f:Array Value) (c:List Value) (m:ae W b f t)
 (n:a.eval p= .pointer (some ⟨b,0,none⟩)) (o:a.eval x= .agg c.toArray) (q:(Tryz.prog.info? g).map (·.size)=some c.length) (z:c.length=f.size) (s:∀v∈c,v.oneCell'=true)
 (u:S (W.setRow b c.toArray)) (w:bC Tryz.prog i S K r (a.put d.dst undef) (W.setRow b c.toArray)):bC Tryz.prog i S K ((true,k,d)::r) a W:=by
 have j:=kn (P:=Tryz.prog) W t g b 0 f c m q oO s;have e:(splice f.toList 0 c).toArray=c.toArray:=by
  unfold splice;rw[List.take_zero,List.nil_append,List.drop_eq_nil_of_le (by simp[z]),List.append_nil]
 rw[e]at j;refine .inl ⟨y,?_⟩;unfold execOp;simp only[l,n,o,Instr.storeAt,Instr.sureAddr,Sem.run_bind,Sem.run_pure,Result.andThen_ok,j];exact⟨u,w⟩
theorem Dd:(Tryz.prog.info? 28).map (·.zero)=some (some (.agg #[.int .i64 0,.int .i64 0,.slice none 0 0])):=oK
theorem JX:(Tryz.prog.info? 28).map (·.size)=some 3:=oK
theorem bu.row {w:World} {db b:Nat} {l:List Bool} (h:bu w db l) (a:Array Value) (c:db≠b):bu (w.setRow b a) db l:=ae.other h a c
abbrev iA (n:Nat) (c:Bool) (C m:Nat):Array Value:=#[.int .i64 (n:Int),.bool c,.int .i64 (C:Int),.int .i64 (m:Int)]
abbrev o9 (n H db N:Nat):List Value:=[.int .i64 (n:Int),.int .i64 (H:Int),.slice (some ⟨db,0,none⟩) N N]
def lS (a W:World) (n N db b:Nat):Prop:=bu W db (List.replicate N false)/\ae W b (o9 n n db N).toArray 28/\Below a.heap.size a W/\a.heap.size<=db/\a.heap.size<=b/\db≠b
def Mo (d:World) (n N b:Nat) (a a':Act) (W:World):Prop:=∃db c,a'=(((((((((((a.put (some 14) (.pointer (some ⟨b,0,none⟩))).put (some 15) (.int .i64 n)).put (some 16) (.pointer (some ⟨b,0,none⟩))).put (some 17) (.int .i64 n)).put (some 18) (.pointer (some ⟨b,0,none⟩))).put (some 19) (.int .i64 n)).put (some 20) (.pointer (some ⟨b,0,none⟩))).put (some 21) (.int .i64 n)).put (some 22) (.int .i64 N)).put (some 23) (.slice (some ⟨db,0,none⟩) N N)).put (some 24) (.agg (o9 n n db N).toArray)).put (some 3) (.pointer (some ⟨c,0,none⟩))/\lS d W n N db c
theorem lS.a {b a:World} {n N:Nat} (c:Below b.heap.size b a):lS b (((a.alloc (.cells ((List.replicate N false).map vB).toArray 4)).alloc (.cells #[.int .i64 0,.int .i64 0,.slice none 0 0] 28)).setRow (a.heap.size+1) (o9 n n a.heap.size N).toArray) n N a.heap.size (a.heap.size+1):=by
 have d:bu (a.alloc (.cells ((List.replicate N false).map vB).toArray 4)) a.heap.size (List.replicate N false):=bu.new _ _;have e:ae ((a.alloc (.cells ((List.replicate N false).map vB).toArray 4)).alloc (.cells #[.int .i64 0,.int .i64 0,.slice none 0 0] 28)) (a.heap.size+1) #[.int .i64 0,.int .i64 0,.slice none 0 0] 28:=ae.new _ _ _ _ oS;have hs:=c.size;refine⟨(d.below (ax _ _)).row _ oO,ae.set e _,below_setRow (ah (ah c _) _) oO _,hs,by omega,by omega⟩
theorem lS.b {b a:World} {n N:Nat} (c:Below b.heap.size b a):lS b (((a.alloc (.cells #[.int .i64 0,.int .i64 0,.slice none 0 0] 28)).alloc (.cells ((List.replicate N false).map vB).toArray 4)).setRow a.heap.size (o9 n n (a.heap.size+1) N).toArray) n N (a.heap.size+1) a.heap.size:=by
 have d:ae (a.alloc (.cells #[.int .i64 0,.int .i64 0,.slice none 0 0] 28)) a.heap.size #[.int .i64 0,.int .i64 0,.slice none 0 0] 28:=ae.new _ _ _ _ rfl;have e:bu ((a.alloc (.cells #[.int .i64 0,.int .i64 0,.slice none 0 0] 28)).alloc (.cells ((List.replicate N false).map vB).toArray 4)) (a.heap.size+1) (List.replicate N false):=ae.new _ _ _ _ oS;have hs:=c.size;refine⟨e.row _ oO,ae.set (d.below (ax _ _)) _,below_setRow (ah (ah c _) _) oO _,by omega,hs,by omega⟩
def kP (n C:Nat) (c:Bool) (j:Nat):List Bool:=(List.range (n* n)).map λi=>decide (i<j)&&tO C c (i%n,i/n)
theorem Io (n C:Nat) (c:Bool):kP n C c 0=List.replicate (n* n) false:=by
 unfold kP;apply List.ext_getElem oS;intro i a b;simp
theorem K8 (n C:Nat) (c:Bool):kP n C c (n* n)=dH n C c:=by
 unfold kP dH;apply List.map_congr_left;intro i a;rw[decide_eq_true (List.mem_range.1 a),Bool.true_and]
theorem qN (n C:Nat) (c:Bool) (j:Nat):(kP n C c j).length=n* n:=by unfold kP;simp
theorem Dg {n C:Nat} {c:Bool} {j i:Nat} (h:i<(kP n C c j).length):(kP n C c j)[i]=(decide (i<j)&&tO C c (i%n,i/n)):=by simp[kP]
theorem Jr {n C:Nat} {c:Bool} {j:Nat}:(kP n C c j).set j (tO C c (j%n,j/n))=kP n C c (j+1):=by
 apply List.ext_getElem (by rw[List.length_set,qN,qN]);intro i b a;rw[List.getElem_set,Dg a];by_cases h:j=i
 ·subst h;rw[if_pos rfl,decide_eq_true oO,Bool.true_and]
 ·rw[if_neg h,Dg];have:decide (i<j)=decide (i<j+1):=by rw[decide_eq_decide];omega
  rw[this]
theorem IP {n C:Nat} {c:Bool} {j:Nat} (h:tO C c (j%n,j/n)=false):kP n C c (j+1)=kP n C c j:=by
 unfold kP;apply List.map_congr_left;intro i _;by_cases e:i=j
 ·subst e;rw[h,Bool.and_false,Bool.and_false]
 ·have:decide (i<j)=decide (i<j+1):=by rw[decide_eq_decide];omega
  rw[this]
theorem Gz (n C m:Nat) (c:Bool) (w:World) (cx:m=cK c) (cy:m<=C) (hn:n=2* C+1) (ed:n<=1000):Calls Tryz.prog 83 #[fQ n c C m] w λe w'=>∃db N,N=n* n/\e= .returned (Ev n n db N)/\w.heap.size<=db/\bu w' db (pk n C c)/\Below w.heap.size w w':=by
 obtain⟨N,be⟩:∃N,N=n* n:=⟨_,rfl⟩;have i1:N<=1000000:=by rw[be];exact Nat.mul_le_mul ed ed
 have i2:(n:Int)* (n:Int)=(N:Int):=by rw[be];simp
 have it:IntKind.i64.wrap (N:Int)=(N:Int):=aE _ oO oO;have f2:5<=m/\m<=7:=by rw[cx];cases c<;>decide
 have c2:=Lib.hid cx;have a5:=Lib.hid be;have i3:Hid ((cO C m).length=6/\(cJ C m).length=6):=⟨rfl,rfl⟩;have g8:Hid (∀p∈cO C m,p.1<=1000/\p.2<=1000/\jP n p<N):=by
  show∀p∈_,_;intro p c3;have h:=Jn (C:=C) (s:=m) oO cy c3;exact⟨by omega,by omega,by rw[be];exact zd oO oO⟩
 have g9:Hid (∀p∈cJ C m,p.1<=1000/\p.2<=1000/\jP n p<N):=by
  show∀p∈_,_;intro p c3;have h:=FP (C:=C) (s:=m) oO cy c3;exact⟨by omega,by omega,by rw[be];exact zd oO oO⟩
 have f3:Hid (∀W,Calls Tryz.prog 88 #[fQ n c C m] W λe w'=>∃v u,e= .returned (.tuple #[v,u])/\fN W.heap.size w' v (cO C m)/\fN W.heap.size w' u (cJ C m)/\Below W.heap.size W w'):=λW=>vJ n C m c W cy oO f2.1;have i4:1<=n:=oO;have i5:C<=1000:=oO;have i6:C<n:=oO;clear cx be hn;obtain⟨P,b2⟩:∃P,P=w.heap.size:=⟨_,rfl⟩;obtain⟨K,cq⟩:∃K,K=w.heap.size+1:=⟨_,rfl⟩;obtain⟨z,bo⟩:∃z,z=(w.alloc (.cells (iA n c C m) 71)).alloc (.cells #[.int .i64 0,.int .i64 0,.slice none 0 0] 28):=⟨_,rfl⟩;have ef:Hid (Below w.heap.size w z):=by show Below _ _ _;rw[bo];exact ah (ax _ _) _
 have eh:Hid (ae z P (iA n c C m) 71):=by
  show ae _ _ _ _;rw[bo];have a1:ae (w.alloc (.cells (iA n c C m) 71)) P (iA n c C m) 71:=ae.new _ _ _ _ b2;exact a1.below (ax _ _)
 have f4:Hid (ae z K #[.int .i64 0,.int .i64 0,.slice none 0 0] 28):=by show ae _ _ _ _;rw[bo];exact ae.new _ _ _ _ (by simp[cq])
 have el:Hid (w.heap.size<=K/\P<K/\K<z.heap.size):=by show _/\_;rw[bo,cq,b2];simp
 go_enter Tryz.func83,Tryz.ntmps83;go_wp2;simp only[<-cq,<-bo];simp only[<-b2];clear bo;have f5:=Lib.hid b2;clear b2 cq;have a6:Hid (Below z.heap.size z z.drew):=ai (Below.refl _ _);have f6:Hid (∀W,af z W->W.cell? ⟨P,0,none⟩=some (.int .i64 (n:Int))):=λW co=>(eh.out.below co).cell 0 _ rfl;refine jT (S:=af z) (.br [(false,0),(false,1),(false,2),(false,3),(false,4),(false,5),(false,6),(false,7),(false,8)] [9,11] (λk=>if k=9 then .last [(false,10),(true,11),(true,12)]else .last [(true,9),(false,10),(true,12)])) (Mo z n N P) oK oK a6.out ?_ ?_
 ·simp only[wpTree,attachW,List.getElem?_cons_zero,List.getElem?_cons_succ]
  repeat refine zO f6.out ?_
  refine ag ?_;intro k d9;simp only[List.mem_cons,List.not_mem_nil,or_false]at d9;rcases d9 with rfl|rfl
  ·simp only[reduceIte,Nat.reduceEqDiff,wpTree,attachW,List.getElem?_cons_zero,List.getElem?_cons_succ];refine' vH rfl rfl N oO rfl rfl (ah a6.out _) ?_;simp only[yQ,yU,yX,yY];refine ag ?_
   (try simp only[reduceIte,Nat.reduceEqDiff,wpTree,attachW,List.getElem?_cons_zero,List.getElem?_cons_succ])
   refine zU ?_;refine' fi 28 rfl rfl _ Dd (ah (ah a6.out _) _) ?_;simp only[yQ,yU,yX,yY];have O:=Lib.hid (lS.a (n:=n) (N:=N) a6.out);refine fR 28 rfl _ _ rfl 28 (z.drew.heap.size+1) #[.int .i64 0,.int .i64 0,.slice none 0 0] (o9 n n z.drew.heap.size N) (ae.new _ _ _ _ oS) (by show _=_;simp;rfl) rfl JX rfl (by intro v bs;simp only[List.mem_cons,List.not_mem_nil,or_false]at bs;rcases bs with rfl|rfl|rfl<;>rfl) O.out.2.2.1 ?_;simp only[yQ,yU,yX,yY];refine ag ?_;refine⟨_,_,?_,O.out⟩;simp[Act.put,List.setIfInBounds_toArray,List.set_cons_zero,List.set_cons_succ]
  ·simp only[reduceIte,Nat.reduceEqDiff,wpTree,attachW,List.getElem?_cons_zero,List.getElem?_cons_succ];refine' fi 28 rfl rfl _ Dd (ah a6.out _) ?_;simp only[yQ,yU,yX,yY];refine ag ?_
   (try simp only[reduceIte,Nat.reduceEqDiff,wpTree,attachW,List.getElem?_cons_zero,List.getElem?_cons_succ])
   refine' vH rfl rfl N oO rfl rfl (ah (ah a6.out _) _) ?_;have f7:(z.drew.alloc (.cells #[.int .i64 0,.int .i64 0,.slice none 0 0] 28)).heap.size=z.drew.heap.size+1:=by simp
   simp only[Act.put,List.setIfInBounds_toArray,List.set_cons_zero,List.set_cons_succ,f7];refine zU ?_;have O:=Lib.hid (lS.b (n:=n) (N:=N) a6.out);refine fR 28 rfl _ _ rfl 28 z.drew.heap.size #[.int .i64 0,.int .i64 0,.slice none 0 0] (o9 n n (z.drew.heap.size+1) N) ((ae.new z.drew _ _ _ rfl).below (ax _ _)) rfl rfl JX rfl (by intro v bs;simp only[List.mem_cons,List.not_mem_nil,or_false]at bs;rcases bs with rfl|rfl|rfl<;>rfl) O.out.2.2.1 ?_;simp only[yQ,yU,yX,yY];refine ag ?_;refine⟨_,_,?_,O.out⟩;simp[Act.put,List.setIfInBounds_toArray,List.set_cons_zero,List.set_cons_succ]
 ·rintro a' b ⟨db,bt,rfl,em⟩;have O:=Lib.hid em;clear em;simp only[yQ,yU,yX,yY];have f8:=el.out;have f9:=O.out.2.2.1.size;have ga:=O.out.2.2.2;have gb:=ar O.out.1;have b3:=ar O.out.2.1;have a2:Hid (P≠db/\bt≠db/\K≠db/\P<b.heap.size/\bt<b.heap.size/\db<b.heap.size/\w.heap.size<=db/\K<b.heap.size/\w.heap.size<=b.heap.size):=by
   show _/\_;have:=ef.out.size;have:=f5.out;omega
  have gc:Hid (Below w.heap.size w b):=aa ef.out O.out.2.2.1;have gd:Hid (ae b P (iA n c C m) 71):=eh.out.below O.out.2.2.1;have ge:Hid (ae b K #[.int .i64 0,.int .i64 0,.slice none 0 0] 28):=f4.out.below O.out.2.2.1;clear f8 f9 ga gb b3;have f:Hid (∀W,aF db b W->((W.cell? ⟨P,0,none⟩=some (.int .i64 (n:Int))/\W.cell? ⟨P,1,none⟩=some (.bool c)/\W.cell? ⟨P,2,none⟩=some (.int .i64 (C:Int))/\W.cell? ⟨P,3,none⟩=some (.int .i64 (m:Int)))/\W.cell? ⟨bt,0,none⟩=some (.int .i64 (n:Int))/\W.cell? ⟨bt,1,none⟩=some (.int .i64 (n:Int))/\W.cell? ⟨bt,2,none⟩=some (.slice (some ⟨db,0,none⟩) N N))):=by
   show∀W,_;intro W co;have a1:=co.row gd.out a2.out.1;have ac:=co.row O.out.2.1 a2.out.2.1;exact⟨⟨a1.cell 0 _ rfl,a1.cell 1 _ rfl,a1.cell 2 _ rfl,a1.cell 3 _ rfl⟩,ac.cell 0 _ rfl,ac.cell 1 _ rfl,ac.cell 2 _ rfl⟩
  obtain⟨⟨B,D,E,F⟩,G,H,J⟩:=f.out b (aF.refl _ _);have en:Hid (bu b db (kP n C c 0)/\aF db b b):=by show _/\_;rw[Io,<-a5.out];exact⟨O.out.1,aF.refl _ _⟩
  go_wp2;clear B D E F G H J;go_loopw [28] (λV wr=>∃j:Nat,j<=N/\V= .int .i64 j/\Hid (bu wr db (kP n C c j)/\aF db b wr)) (λV _=>N-(intOf V).toNat)
  case atStart=>exact⟨0,Nat.zero_le _,rfl,en.out⟩
  case round=>
   clear en;obtain⟨j,ad,rfl,t⟩:=hrel;by_cases Q:j<N
   ·obtain⟨x,X⟩:∃x,x=j%n:=⟨_,rfl⟩;obtain⟨y,Y⟩:∃y,y=j/n:=⟨_,rfl⟩;have i7:x<n:=by rw[X];exact Nat.mod_lt _ oO
    have i8:y<n:=by rw[Y];exact(Nat.div_lt_iff_lt_mul oO).2 (by rw[<-a5.out];exact Q)
    have i9:¬n=0:=oO;have fb:(j:Int)%(n:Int)=(x:Int):=by rw[X];simp
    have fc:(j:Int)/(n:Int)=(y:Int):=by rw[Y];simp
    have jp:(j:Int).tmod (n:Int)=(x:Int):=by rw[Int.tmod_eq_emod_of_nonneg oO];exact fb
    have jr:(j:Int).tdiv (n:Int)=(y:Int):=by rw[Int.tdiv_eq_ediv_of_nonneg oO];exact fc
    have iv:IntKind.i64.wrap (y:Int)=(y:Int):=aE _ oO oO;obtain⟨d,bv⟩:∃d,d=rC C (x,y):=⟨_,rfl⟩;have jv:d<=1000:=by rw[bv];unfold rC pY;simp only;omega
    have bq:Hid (∀W,Calls Tryz.prog 86 #[fQ n c C m,.int .i64 x,.int .i64 y] W λe w'=>e= .returned (.int .i64 (d:Int))/\Below W.heap.size W w'):=λW=>by rw[bv];exact Af n C m x y c W oO oO oO
    have eq:Hid (∀W,Calls Tryz.prog 87 #[.int .i64 d] W λe w'=>e= .returned (.bool (d%2==0))/\w'=W):=λW=>CJ d W oO;have al:Hid (∀W,Calls Tryz.prog 133 #[fQ n c C m,.int .i64 ((x:Int)-(C:Int)),.int .i64 ((y:Int)-(C:Int))] W λe w'=>e= .returned (.bool (xx C (x,y)))/\Below W.heap.size W w'):=λW=>by rw[<-KY];exact tg n C m c _ _ W
    have c5:Hid (d<m->tO C c (j%n,j/n)=(d%2==0)):=by
     show _->_;intro h;unfold tO;rw[<-X,<-Y,<-bv,if_pos (by rw[<-c2.out];exact h)]
    have c6:Hid (¬d<m->tO C c (j%n,j/n)=(!c&&xx C (x,y))):=by
     show _->_;intro h;unfold tO;rw[<-X,<-Y,<-bv,if_neg (by rw[<-c2.out];exact h)]
    have er:=Lib.hid (@Jr n C c j);have es:=Lib.hid (@IP n C c j);have a3:Hid (j<(kP n C c j).length):=by show _<_;rw[qN,<-a5.out];exact Q
    clear X Y bv;have j0:Hid (∃u v:Int,u=(x:Int)-(C:Int)/\v=(y:Int)-(C:Int)):=⟨_,_,rfl,rfl⟩;generalize tO C c (j%n,j/n)=bx at*;generalize xx C (x,y)=fd at*;generalize kP n C c j=M at*;have kc:(j:Int)<(N:Int):=oO;have am:Hid (aF db b wr.drew):=t.out.2.trans (aF.below (ai (Below.refl _ _)));have c7:Hid (bu wr.drew db M):=t.out.1.below (ai (Below.refl _ _));by_cases cr:d<m
    ·have b4:=c5.out cr;subst b4;have gg:(d:Int)<(m:Int):=oO;clear c5 c6 al;go_wp2;refine yO (λW=>aF db b W) [1,2,3,4,5,6,7,8,9,10] am.out ?_
     repeat refine zO f.out ?_
     refine ag ?_;obtain⟨⟨B,D,E,F⟩,G,H,J⟩:=f.out wr.drew am.out;go_wp2_with(go_at_call 86;refine(bq.out _).mono ?_;rintro e L ⟨rfl,ab⟩;have a4:Hid (aF db b L):=am.out.trans (aF.below ab);have b5:Hid (bu L db M):=c7.out.below ab;clear ab B D E F G H J bq;obtain⟨⟨B,D,E,F⟩,G,H,J⟩:=f.out L a4.out)
     have a7:Hid (aF db b L.drew):=a4.out.trans (aF.below (ai (Below.refl _ _)));have b6:Hid (bu L.drew db M):=b5.out.below (ai (Below.refl _ _));clear B D E F G H J;refine yO (λW=>aF db b W) [1,2,3,4,0,5,0,6,0,7] a7.out ?_
     repeat refine zO f.out ?_
     refine zZ ?_;refine(eq.out _).mono ?_;rintro e bf ⟨rfl,et⟩;rw[et];clear et;refine⟨_,rfl,a7.out,jO ?_⟩;refine zO f.out ?_;refine' aY (w':=L.drew.setCell ⟨db,j,none⟩ (.bool (d%2==0))) rfl (po rfl ⟨db,j,none⟩ _ rfl rfl (b6.out.cell a3.out) (frozen_of_row _ _ _ _ _ b6.out)) (a7.out.trans (aF.jn _)) ?_;simp only[yQ,yU,yX,yY];refine ag ?_;have a0:Hid (bu (L.drew.setCell ⟨db,j,none⟩ (.bool (d%2==0))) db (kP n C c (j+1))/\aF db b (L.drew.setCell ⟨db,j,none⟩ (.bool (d%2==0)))):=by
      show _/\_;rw[<-er.out];exact⟨b6.out.set _ _,a7.out.trans (aF.jn _)⟩
     go_wp2;exact⟨⟨j+1,by omega,by go_num,a0.out⟩,by simp[intOf];omega⟩
    ·have gg:¬(d:Int)<(m:Int):=oO;have kd:m<=d:=oO;have ks:decide (d<m)=false:=by simp;omega
     have d6:=Lib.hid (c6.out cr);clear c5 c6 eq;cases c with
     |true=>
      have b4:bx=false:=d6.out;subst b4;clear cr;have gi:=Lib.hid (es.out rfl);go_wp2;refine yO (λW=>aF db b W) [1,2,3,4,5,6,7,8,9,10] am.out ?_
      repeat refine zO f.out ?_
      refine ag ?_;obtain⟨⟨B,D,E,F⟩,G,H,J⟩:=f.out wr.drew am.out;go_wp2_with(go_at_call 86;refine(bq.out _).mono ?_;rintro e L ⟨rfl,ab⟩;have a4:Hid (aF db b L):=am.out.trans (aF.below ab);have b5:Hid (bu L db M):=c7.out.below ab;clear ab B D E F G H J bq;obtain⟨⟨B,D,E,F⟩,G,H,J⟩:=f.out L a4.out)
      exact⟨⟨j+1,by omega,by go_num,by show _/\_;rw[gi.out];exact⟨b5.out,a4.out⟩⟩,by simp[intOf];omega⟩
     |false=>
      have b4:bx=fd:=d6.out;subst b4;clear cr es d6;go_wp2;refine yO (λW=>aF db b W) [1,2,3,4,5,6,7,8,9,10] am.out ?_
      repeat refine zO f.out ?_
      refine ag ?_;obtain⟨⟨B,D,E,F⟩,G,H,J⟩:=f.out wr.drew am.out;go_wp2_with(go_at_call 86;refine(bq.out _).mono ?_;rintro e L ⟨rfl,ab⟩;have a4:Hid (aF db b L):=am.out.trans (aF.below ab);have b5:Hid (bu L db M):=c7.out.below ab;clear ab B D E F G H J bq;obtain⟨⟨B,D,E,F⟩,G,H,J⟩:=f.out L a4.out)
      have a7:Hid (aF db b L.drew):=a4.out.trans (aF.below (ai (Below.refl _ _)));have b6:Hid (bu L.drew db M):=b5.out.below (ai (Below.refl _ _));clear B D E F G H J;have kv:IntKind.i64.wrap ((x:Int)-(C:Int))=(x:Int)-(C:Int):=aE _ oO oO;have kw:IntKind.i64.wrap ((y:Int)-(C:Int))=(y:Int)-(C:Int):=aE _ oO oO;refine yO (λW=>aF db b W) [1,2,3,4,5,6,7,8,9,10,11,12,0,13,0,14,0,15] a7.out ?_;refine zO f.out ?_;refine zO f.out ?_;refine zO f.out ?_;refine zO f.out ?_;refine zO f.out ?_;refine zO f.out ?_;refine zO f.out ?_;refine zO f.out ?_;refine zO f.out ?_;refine zO f.out ?_;refine zO f.out ?_;refine zO f.out ?_;refine zZ ?_;refine(al.out _).mono ?_;rintro e bf ⟨rfl,c8⟩;have c9:Hid (aF db b bf):=a7.out.trans (aF.below c8);have di:Hid (bu bf db M):=b6.out.below c8;clear c8;refine⟨_,rfl,c9.out,jO ?_⟩;refine zO f.out ?_;refine' aY (w':=bf.setCell ⟨db,j,none⟩ (.bool bx)) rfl (po rfl ⟨db,j,none⟩ _ rfl rfl (di.out.cell a3.out) (frozen_of_row _ _ _ _ _ di.out)) (c9.out.trans (aF.jn _)) ?_;simp only[yQ,yU,yX,yY];refine ag ?_;have a0:Hid (bu (bf.setCell ⟨db,j,none⟩ (.bool bx)) db (kP n C false (j+1))/\aF db b (bf.setCell ⟨db,j,none⟩ (.bool bx))):=by
       show _/\_;rw[<-er.out];exact⟨di.out.set _ _,c9.out.trans (aF.jn _)⟩
      go_wp2;exact⟨⟨j+1,by omega,by go_num,a0.out⟩,by simp[intOf];omega⟩
   ·obtain rfl:N=j:=oO;obtain⟨ap,rfl⟩:∃x,x=wr:=⟨_,rfl⟩;have go:Hid (bu ap db (dH n C c)):=by show bu _ _ _;rw[<-K8,<-a5.out];exact t.out.1
    have dl:Hid (aF db b ap):=t.out.2;clear t;obtain⟨⟨B,D,E,F⟩,G,H,J⟩:=f.out ap dl.out;go_wp2_with(go_at_call 88;refine(f3.out _).mono ?_;rintro e T ⟨v4,u4,rfl,b3,ds,dv⟩;obtain⟨fn,ix,rfl,gq,gs,gt⟩:=id b3.1;obtain⟨c4,ea,rfl,gv,gx,gy⟩:=id ds.1;have ew:=Lib.hid b3;have ex:=Lib.hid ds;have ey:Hid (aF db b T):=dl.out.trans (aF.below dv);have gz:Hid (bu T db (dH n C c)):=go.out.below dv;have dx:Hid (db<ap.heap.size):=Nat.lt_of_lt_of_le a2.out.2.2.2.2.2.1 dl.out.sz;clear dv b3 ds gq gs gt gv gx gy B D E F G H J)
    have ez:Hid (bu T db (wrL n (dH n C c) ((cO C m).take 0) (kj.take 0))/\aF db T T):=by show _/\_;rw[List.take_zero,pW];exact⟨gz.out,aF.refl _ _⟩
    have ib:Hid (∀j,j<6->∃g o,fn=some ⟨g,o,none⟩/\g<T.heap.size/\g≠db/\T.cell? ⟨g,o+j* 2,none⟩=some (.int .i64 (((cO C m).getD j (0,0)).1:Int))/\T.cell? ⟨g,o+j* 2+1,none⟩=some (.int .i64 (((cO C m).getD j (0,0)).2:Int))):=by
     show∀j,_;intro j ad;obtain⟨A,k,e,-,-,h⟩:=ew.out.1;obtain⟨g,o,e2,ac,bz⟩:=h (by show 0<6;omega);injection e with e3 _ _;have cp:ap.heap.size<=g:=ew.out.2 _ _ _ _ rfl (e3.trans e2);have b1:=dx.out;have bi:=bz j ad;exact⟨g,o,e3.trans e2,ac,by omega,bi⟩
    go_wp2;go_loopw [80] (λV wr=>∃j:Nat,j<=6/\V= .int .i64 j/\Hid (bu wr db (wrL n (dH n C c) ((cO C m).take j) (kj.take j))/\aF db T wr)) (λV _=>6-(intOf V).toNat)
    case atStart=>exact⟨0,Nat.zero_le _,rfl,ez.out⟩
    case round=>
     clear ez;obtain⟨j,ad,rfl,t⟩:=hrel;by_cases Q:j<6
     ·obtain⟨g,o,rfl,b7,b8,X,Y⟩:=ib.out j Q;have b9:(cO C m).getD j (0,0)∈cO C m:=by
       have:j<(cO C m).length:=Q;simp only[List.getD,List.getElem?_eq_getElem this,Option.getD_some];exact List.getElem_mem this
      obtain⟨gC,gD,ch⟩:=g8.out _ b9;have ca:kj.getD j false=true:=by
       have:∀j,j<6->kj.getD j false=true:=by decide
       exact this j Q
      have ck:Hid (wrL n (dH n C c) ((cO C m).take (j+1)) (kj.take (j+1))=(wrL n (dH n C c) ((cO C m).take j) (kj.take j)).set (jP n ((cO C m).getD j (0,0))) true):=by
       have:=ug n (dH n C c) (cO C m) kj (i:=j) Q Q;rw[ca]at this;exact this
      have a3:Hid ((wrL n (dH n C c) ((cO C m).take j) (kj.take j)).length=N):=by show _=_;rw[fT,nj,a5.out]
      generalize(cO C m).getD j (0,0)=p at*;generalize wrL n (dH n C c) ((cO C m).take j) (kj.take j)=M at*;have cb:aF db b wr:=ey.out.trans t.out.2;have e1:wr.cell? ⟨g,o+j* 2,none⟩=some (.int .i64 (p.1:Int)):=(t.out.2.cell (a:=⟨g,o+j* 2,none⟩) b7 b8).trans X;have e2:wr.cell? ⟨g,o+j* 2+1,none⟩=some (.int .i64 (p.2:Int)):=(t.out.2.cell (a:=⟨g,o+j* 2+1,none⟩) b7 b8).trans Y;obtain⟨l,av⟩:∃l,l=wr.alloc (.cells #[.int .i64 (p.1:Int),.int .i64 (p.2:Int)] 47):=⟨_,rfl⟩;obtain⟨Z,a8⟩:∃Z,Z=wr.heap.size:=⟨_,rfl⟩;have a9:Hid (Below wr.heap.size wr l):=by show Below _ _ _;rw[av];exact ax _ _
      have ce:Hid (ae l Z #[.int .i64 (p.1:Int),.int .i64 (p.2:Int)] 47):=by show ae _ _ _ _;rw[av,a8];exact ae.new _ _ _ _ oS
      have bb:Hid (bu l db M):=t.out.1.below a9.out;have dy:Hid (aF db b l):=cb.trans (aF.below a9.out);have d0:Hid (aF db T l):=t.out.2.trans (aF.below a9.out);have cg:l.cell? ⟨Z,0,none⟩=some (.int .i64 (p.1:Int)):=ce.out.cell 0 _ rfl;have ci:l.cell? ⟨Z,1,none⟩=some (.int .i64 (p.2:Int)):=ce.out.cell 1 _ rfl;obtain⟨⟨B,D,E,F⟩,G,H,J⟩:=f.out l dy.out;obtain⟨q,hq⟩:∃q,q=p.2* n:=⟨_,rfl⟩;obtain⟨r,bd⟩:∃r,r=jP n p:=⟨_,rfl⟩;have d1:r=q+p.1:=by rw[bd,hq];rfl
      rw[<-bd]at ch ck;have gN:q<=1000000:=oO;have g0:(p.2:Int)* (n:Int)=(q:Int):=by rw[hq];simp
      have fo:IntKind.i64.wrap (q:Int)=(q:Int):=aE _ oO oO;have fr:IntKind.i64.wrap ((q:Int)+(p.1:Int))=(r:Int):=by rw[aE _ oO oO];omega
      have g1:(q:Int)+(p.1:Int)=(r:Int):=oO;have ih:(r:Int)<(N:Int):=oO;have d7:Hid (r<M.length):=by show _<_;rw[a3.out];exact ch
      have g2:(j:Int)<6:=oO;have d2:l.cell? ⟨db,r,none⟩=some (.bool (M.getD r false)):=bb.out.cell d7.out;have d3:l.frozen? ⟨db,r,none⟩=false:=frozen_of_row _ _ _ _ _ bb.out;have a0:Hid (bu (l.setCell ⟨db,r,none⟩ (.bool true)) db (wrL n (dH n C c) ((cO C m).take (j+1)) (kj.take (j+1)))/\aF db T (l.setCell ⟨db,r,none⟩ (.bool true))):=by
       show _/\_;rw[ck.out];exact⟨bb.out.set _ _,d0.out.trans (aF.jn _)⟩
      rw[av]at B D E F G H J d2 d3 a0 cg ci;rw[a8]at cg ci;clear hq bd d1 b9 a3 ca X Y cb av a8;go_wp2;exact⟨⟨j+1,by omega,by go_num,a0.out⟩,by simp[intOf];omega⟩
     ·obtain rfl:j=6:=oO;have g3:Hid (bu wr db (wrL n (dH n C c) (cO C m) kj)):=t.out.1;have cs:Hid (aF db T wr):=t.out.2;clear t;have cv:Hid (fN ap.heap.size T (.slice c4 (cJ C m).length ea) (cJ C m)):=ex;obtain⟨U,rfl⟩:∃x,x=wr:=⟨_,rfl⟩;have e0:Hid (aF db b U):=ey.out.trans cs.out;have ii:Hid (fN ap.heap.size U (.slice c4 (cJ C m).length ea) (cJ C m)):=by
       obtain⟨⟨A,k,e,a1,ac,bz⟩,cp⟩:=ex.out;refine⟨⟨A,k,e,a1,ac,λfv=>?_⟩,cp⟩;obtain⟨g,o,e2,b1,bi⟩:=bz fv;have fw:=cp A _ _ _ e e2;have i0:=dx.out;have ec:g≠db:=by show g≠db;have:ap.heap.size<=g:=fw;omega
       exact⟨g,o,e2,Nat.lt_of_lt_of_le b1 cs.out.sz,λj ad=>⟨(cs.out.cell (a:=⟨g,o+j* 2,none⟩) b1 ec).trans (bi j ad).1,(cs.out.cell (a:=⟨g,o+j* 2+1,none⟩) b1 ec).trans (bi j ad).2⟩⟩
      have g4:=g3;have g5:=dx;clear cv;have cv:=ii;have e9:Hid (bu U db (wrL n (wrL n (dH n C c) (cO C m) kj) ((cJ C m).take 0) (pE.take 0))/\aF db U U):=by show _/\_;rw[List.take_zero,pW];exact⟨g4.out,aF.refl _ _⟩
      have io:Hid (∀j,j<6->∃g o,c4=some ⟨g,o,none⟩/\g<U.heap.size/\g≠db/\U.cell? ⟨g,o+j* 2,none⟩=some (.int .i64 (((cJ C m).getD j (0,0)).1:Int))/\U.cell? ⟨g,o+j* 2+1,none⟩=some (.int .i64 (((cJ C m).getD j (0,0)).2:Int))):=by
       show∀j,_;intro j ad;obtain⟨A,k,e,-,-,h⟩:=cv.out.1;obtain⟨g,o,e2,ac,bz⟩:=h (by show 0<6;omega);injection e with e3 _ _;have cp:ap.heap.size<=g:=cv.out.2 _ _ _ _ rfl (e3.trans e2);have b1:=g5.out;have bi:=bz j ad;exact⟨g,o,e3.trans e2,ac,by omega,bi⟩
      go_wp2;go_loopw [98] (λV wr=>∃j:Nat,j<=6/\V= .int .i64 j/\Hid (bu wr db (wrL n (wrL n (dH n C c) (cO C m) kj) ((cJ C m).take j) (pE.take j))/\aF db U wr)) (λV _=>6-(intOf V).toNat)
      case atStart=>exact⟨0,Nat.zero_le _,rfl,e9.out⟩
      case round=>
       clear e9;obtain⟨j,ad,rfl,t⟩:=hrel;by_cases Q:j<6
       ·obtain⟨g,o,rfl,b7,b8,X,Y⟩:=io.out j Q;have b9:(cJ C m).getD j (0,0)∈cJ C m:=by
         have:j<(cJ C m).length:=Q;simp only[List.getD,List.getElem?_eq_getElem this,Option.getD_some];exact List.getElem_mem this
        obtain⟨gC,gD,ch⟩:=g9.out _ b9;have ca:pE.getD j false=false:=by
         have:∀j,j<6->pE.getD j false=false:=by decide
         exact this j Q
        have ck:Hid (wrL n (wrL n (dH n C c) (cO C m) kj) ((cJ C m).take (j+1)) (pE.take (j+1))=(wrL n (wrL n (dH n C c) (cO C m) kj) ((cJ C m).take j) (pE.take j)).set (jP n ((cJ C m).getD j (0,0))) false):=by
         have:=ug n (wrL n (dH n C c) (cO C m) kj) (cJ C m) pE (i:=j) Q Q;rw[ca]at this;exact this
        have a3:Hid ((wrL n (wrL n (dH n C c) (cO C m) kj) ((cJ C m).take j) (pE.take j)).length=N):=by show _=_;rw[fT,fT,nj,a5.out]
        generalize(cJ C m).getD j (0,0)=p at*;generalize wrL n (wrL n (dH n C c) (cO C m) kj) ((cJ C m).take j) (pE.take j)=M at*;have cb:aF db b wr:=e0.out.trans t.out.2;have e1:wr.cell? ⟨g,o+j* 2,none⟩=some (.int .i64 (p.1:Int)):=(t.out.2.cell (a:=⟨g,o+j* 2,none⟩) b7 b8).trans X;have e2:wr.cell? ⟨g,o+j* 2+1,none⟩=some (.int .i64 (p.2:Int)):=(t.out.2.cell (a:=⟨g,o+j* 2+1,none⟩) b7 b8).trans Y;obtain⟨l,av⟩:∃l,l=wr.alloc (.cells #[.int .i64 (p.1:Int),.int .i64 (p.2:Int)] 47):=⟨_,rfl⟩;obtain⟨Z,a8⟩:∃Z,Z=wr.heap.size:=⟨_,rfl⟩;have a9:Hid (Below wr.heap.size wr l):=by show Below _ _ _;rw[av];exact ax _ _
        have ce:Hid (ae l Z #[.int .i64 (p.1:Int),.int .i64 (p.2:Int)] 47):=by show ae _ _ _ _;rw[av,a8];exact ae.new _ _ _ _ oS
        have bb:Hid (bu l db M):=t.out.1.below a9.out;have dy:Hid (aF db b l):=cb.trans (aF.below a9.out);have d0:Hid (aF db U l):=t.out.2.trans (aF.below a9.out);have cg:l.cell? ⟨Z,0,none⟩=some (.int .i64 (p.1:Int)):=ce.out.cell 0 _ rfl;have ci:l.cell? ⟨Z,1,none⟩=some (.int .i64 (p.2:Int)):=ce.out.cell 1 _ rfl;obtain⟨⟨B,D,E,F⟩,G,H,J⟩:=f.out l dy.out;obtain⟨q,hq⟩:∃q,q=p.2* n:=⟨_,rfl⟩;obtain⟨r,bd⟩:∃r,r=jP n p:=⟨_,rfl⟩;have d1:r=q+p.1:=by rw[bd,hq];rfl
        rw[<-bd]at ch ck;have gN:q<=1000000:=oO;have g0:(p.2:Int)* (n:Int)=(q:Int):=by rw[hq];simp
        have fo:IntKind.i64.wrap (q:Int)=(q:Int):=aE _ oO oO;have fr:IntKind.i64.wrap ((q:Int)+(p.1:Int))=(r:Int):=by rw[aE _ oO oO];omega
        have g1:(q:Int)+(p.1:Int)=(r:Int):=oO;have ih:(r:Int)<(N:Int):=oO;have d7:Hid (r<M.length):=by show _<_;rw[a3.out];exact ch
        have g2:(j:Int)<6:=oO;have d2:l.cell? ⟨db,r,none⟩=some (.bool (M.getD r false)):=bb.out.cell d7.out;have d3:l.frozen? ⟨db,r,none⟩=false:=frozen_of_row _ _ _ _ _ bb.out;have a0:Hid (bu (l.setCell ⟨db,r,none⟩ (.bool false)) db (wrL n (wrL n (dH n C c) (cO C m) kj) ((cJ C m).take (j+1)) (pE.take (j+1)))/\aF db U (l.setCell ⟨db,r,none⟩ (.bool false))):=by
         show _/\_;rw[ck.out];exact⟨bb.out.set _ _,d0.out.trans (aF.jn _)⟩
        rw[av]at B D E F G H J d2 d3 a0 cg ci;rw[a8]at cg ci;clear hq bd d1 b9 a3 ca X Y cb av a8;go_wp2;exact⟨⟨j+1,by omega,by go_num,a0.out⟩,by simp[intOf];omega⟩
       ·obtain rfl:j=6:=oO;have HEq:Hid (bu wr db (wrL n (wrL n (dH n C c) (cO C m) kj) (cJ C m) pE)):=t.out.1;have ip:Hid (aF db U wr):=t.out.2;clear t;have d4:Hid (aF db b wr):=e0.out.trans ip.out;obtain⟨⟨B,D,E,F⟩,G,H,J⟩:=f.out wr d4.out;have al:Hid (ae wr K #[.int .i64 0,.int .i64 0,.slice none 0 0] 28):=d4.out.row ge.out a2.out.2.2.1;have c0:wr.cell? ⟨K,0,none⟩=some (.int .i64 0):=al.out.cell 0 _ rfl;have c1:wr.cell? ⟨K,1,none⟩=some (.int .i64 0):=al.out.cell 1 _ rfl;have fx:wr.cell? ⟨K,2,none⟩=some (.slice none 0 0):=al.out.cell 2 _ rfl;have fz:wr.frozen? ⟨K,0,none⟩=false:=frozen_of_row _ _ _ _ _ al.out;have f0:wr.frozen? ⟨K,1,none⟩=false:=frozen_of_row _ _ _ _ _ al.out;have f1:wr.frozen? ⟨K,2,none⟩=false:=frozen_of_row _ _ _ _ _ al.out;have g6:Hid (Below w.heap.size w wr):=gc.out.trans (d4.out.to a2.out.2.2.2.2.2.2.1 a2.out.2.2.2.2.2.2.2.2);have g7:Hid (wrL n (wrL n (dH n C c) (cO C m) kj) (cJ C m) pE=pk n C c):=by show _=_;unfold pk;rw[<-c2.out]
        have d8:w.heap.size<=K:=el.out.1;go_wp2;refine bodyPost_ret (v:=Ev n n db N) (by simp[results,Tryz.results83,go_sem,c0,c1,fx,fz,f0,f1]) rfl ⟨db,N,a5.out,rfl,a2.out.2.2.2.2.2.2.1,?_,?_⟩
        ·rw[<-g7.out];have d5:db≠K:=(a2.out.2.2.1).symm;exact((ae.cj (ae.cj (ae.cj HEq.out _ _ d5) _ _ d5) _ _ d5))
        ·exact((g6.out.setCell d8 _).setCell d8 _).setCell d8 _
abbrev Sy:=Nat×Bool
def jW (p:Sy):List Value:=[.int .i64 (p.1:Int),.bool p.2]
theorem KZ (p:Sy):∀v∈jW p,v.oneCell'=true:=by
 intro v a;simp only[jW,List.mem_cons,List.not_mem_nil,or_false]at a;rcases a with rfl|rfl<;>rfl
theorem IY (l:List Sy):∀v∈l.flatMap jW,v.oneCell'=true:=by
 intro v a;obtain⟨p,-,b⟩:=List.mem_flatMap.1 a;exact KZ p v b
theorem tA (l:List Sy):(l.flatMap jW).length=l.length* 2:=by
 induction l with
 |nil=>rfl
 |cons p l a=>simp only[List.flatMap_cons,List.length_append,a,List.length_cons];show 2+_=_;omega
theorem Bp (l:List Sy) (i:Nat) (a:i<l.length):(l.flatMap jW)[2* i]?=some (.int .i64 ((l.getD i (0,false)).1:Int))/\(l.flatMap jW)[2* i+1]?=some (.bool (l.getD i (0,false)).2):=by
 induction l generalizing i with
 |nil=>simp at a
 |cons p l b=>
  cases i with
  |zero=>exact⟨rfl,rfl⟩
  |succ i=>
   have h:=b i (by simpa using a);simp only[List.flatMap_cons,jW];rw[show 2* (i+1)=2* i+2 from by omega];simp only[List.cons_append,List.nil_append,List.getElem?_cons_succ,List.getD_cons_succ];exact h
theorem Hj:(Tryz.prog.info? 60).map (λi=>(i.zero,i.size,i.bytes))=some (some (.agg #[.int .i64 0,.bool false]),2,16):=oK
def LO (w:World) (A:Option Addr) (xs:List Sy):Prop:=0<xs.length->∃g a,A=some ⟨g,a,none⟩/\g<w.heap.size/\∀j,j<xs.length->w.cell? ⟨g,a+j* 2,none⟩=some (.int .i64 ((xs.getD j (0,false)).1:Int))/\w.cell? ⟨g,a+j* 2+1,none⟩=some (.bool (xs.getD j (0,false)).2)
def SY (w:World) (v:Value) (xs:List Sy):Prop:=∃A c,v= .slice A xs.length c/\xs.length<=c/\c<=maxLen/\LO w A xs
theorem SY.dR (w:World):SY w (.slice none 0 0) []:=⟨none,0,rfl,by simp,by simp,λh=>absurd h oS⟩
theorem SY.bK {W:World} {base:Nat} {e:TypeId} {n:Nat} {v:Value} {xs:List Sy} (h:W.ownsRow base e 2 v n (xs.flatMap jW)):SY W v xs:=by
 have hl:xs.length=n:=by have:=h.1;rw[tA]at this;omega
 rcases h.2 with⟨rfl,rfl⟩|⟨g,cap,d,rfl,hb,hg,f,oZ,_⟩
 ·have:xs=[]:=List.eq_nil_of_length_eq_zero hl;subst this;exact SY.dR _
 ·refine⟨_,cap,by rw[hl],by omega,oZ,λhn=>⟨g,0,rfl,ar hg,λj c=>?_⟩⟩;have a:=Bp xs j c;have e:0+j* 2=2* j:=oO;have c1:=h.cells (g:=g) rfl (2* j) _ a.1;have b:=h.cells (g:=g) rfl (2* j+1) _ a.2;rw[add_plain,Nat.zero_add]at c1 b;rw[e];exact⟨c1,b⟩
structure mX (w wr:World) (v:Value) (l:List Sy):Prop where
 B:af w wr
 O:wr.ownsRow w.heap.size 60 2 v l.length (l.flatMap jW)
theorem mX.start (w:World):mX w w (.slice none 0 0) []:=⟨Below.refl _ _,World.ownsRow_nil _ _ _ _⟩
theorem mX.sp {w wr:World} {v:Value} {l:List Sy} (h:mX w wr v l):SY wr v l:=SY.bK h.O
theorem D6 {W:World} {base:Nat} {v:Value} {n:Nat} {l:List Sy} (d:TypeId) (f:W.ownsRow base 60 2 v n (l.flatMap jW)) (w:base<=W.heap.size) (b:Addr) (m c:Nat) (ys:List Sy) (g:m=ys.length)
 (hc:∀j u,(ys.flatMap jW)[j]?=some u->W.cell? (b.add j)=some u) (hl:n+m<=1000000):
 ∃a w',(Builtin.append_ #[62,62] d #[v,.slice (some b) m c]).run Tryz.prog W= .ok a w'/\w'.ownsRow base 60 2 a (n+m) ((l++ys).flatMap jW)/\W.grownBy w' v.ownBlock/\(a.ownBlock=v.ownBlock\/a.ownBlock=some W.heap.size):=by
 obtain⟨i,k,q,r,s⟩:=info_parts Hj;obtain⟨a,w',t,e,o,_,p⟩:=run_append_own_at (P:=Tryz.prog) W base 62 d 60 i _ 2 16 Tryz.underlying62 k q r s rfl oO v n _ f b m c (ys.flatMap jW) (by rw[tA,g]) hc (IY ys) oM oO w;rw[<-List.flatMap_append]at e;exact⟨a,w',t,e,o,p⟩
theorem nt {f:Array Oper} {g:List Oper} {d:Oper} {a:Act} {Q:Exit->Act->World->Prop} {W:World} {base:Nat} {v:Value} {n:Nat} {l:List Sy} (i:W.ownsRow base 60 2 v n (l.flatMap jW)) (B:base<=W.heap.size) (z:d.guard=none) (s y:Operand)
 (k:d.op= .call {callee:= .builtin .append,args:=#[s,y],argTypes:=#[62,62]}) (hs:a.eval s=v) (e:Addr) (m c:Nat) (ys:List Sy) (o:a.eval y= .slice (some e) m c) (p:m=ys.length)
 (hc:∀j u,(ys.flatMap jW)[j]?=some u->W.cell? (e.add j)=some u) (hl:n+m<=1000000)
 (q:∀b w',w'.ownsRow base 60 2 b (n+m) ((l++ys).flatMap jW)->W.grownBy w' v.ownBlock->(b.ownBlock=v.ownBlock\/b.ownBlock=some W.heap.size)->wpList Tryz.prog f Q g (a.put d.dst b) w'):wpList Tryz.prog f Q (d::g) a W:=by
 refine wpList_plain z λK r=>?_;obtain⟨b,w',A,t,w,x⟩:=D6 d.type i B e m c ys p hc hl;unfold Oper.wp execOp;simp only[k,resolve,invoke,builtin,Sem.run_bind,Sem.run_pure,Result.andThen_ok,List.map_toArray,List.map_cons,List.map_nil,hs,o,A];exact r _ _ (q b w' t w x)
theorem mX.grow {w wr W a:World} {v v1:Value} {l ys:List Sy} (h:mX w wr v l) (b:Below wr.heap.size wr W) (d:a.ownsRow w.heap.size 60 2 v1 (l.length+ys.length) ((l++ys).flatMap jW)) (hg:W.grownBy a v.ownBlock):mX w a v1 (l++ys):=by
 refine⟨(aa h.B b).grown hg (by have:=(aa h.B b).size;exact this) (λk c=>(h.O.lt k c).1),?_⟩;rw[List.length_append];exact d
theorem s7 (W:World) (ys:List Sy) (t:TypeId):∀j u,(ys.flatMap jW)[j]?=some u->(W.alloc (.cells (ys.flatMap jW).toArray t)).cell? ((⟨W.heap.size,0,none⟩:Addr).add j)=some u:=by
 intro j u a;have b:j<(ys.flatMap jW).length:=by
  rcases Nat.lt_or_ge j (ys.flatMap jW).length with h|h
  ·exact h
  ·rw[List.getElem?_eq_none h]at a;cases a
 rw[add_plain,Nat.zero_add];have:=(an.new W (ys.flatMap jW).toArray t W.heap.size rfl).2 j (by simpa using b);rw[this];simp only[List.toList_toArray,List.getD,a,Option.getD_some]
theorem SY.lit (W:World) (ys:List Sy) (t:TypeId) (b n:Nat) (hb:b=W.heap.size) (hn:n=ys.length) (d:n<=maxLen):SY (W.alloc (.cells (ys.flatMap jW).toArray t)) (.slice (some ⟨b,0,none⟩) n n) ys:=by
 subst hb hn;refine⟨_,_,rfl,Nat.le_refl _,d,λ_=>⟨_,0,rfl,by simp,λj e=>?_⟩⟩;have h:=Bp ys j e;have a:=s7 W ys t _ _ h.1;have c:=s7 W ys t _ _ h.2;rw[add_plain,Nat.zero_add]at a c;rw[Nat.zero_add,Nat.mul_comm];exact⟨a,c⟩
def ns (j:Nat):List Sy:=(List.range j).map λi=>(i+1,true)
def si (j:Nat):List Sy:=(List.range j).map λi=>(i+4,false)
theorem Iu (j:Nat):ns (j+1)=ns j++[(j+1,true)]:=by unfold ns;rw[List.range_succ,List.map_append];rfl
theorem Ii (j:Nat):si (j+1)=si j++[(j+4,false)]:=by unfold si;rw[List.range_succ,List.map_append];rfl
theorem Be (c:Bool):qn c=ns 4++(if c=true then[]else si 29):=rfl
theorem B6 (c:Bool) (w:World):Calls Tryz.prog 31 #[.bool c] w λe w'=>∃v,e= .returned v/\SY w' v (qn c)/\Below w.heap.size w w':=by
 obtain⟨z,A,B,C,D⟩:=info_parts Hj;go_enter Tryz.func31,Tryz.ntmps31;go_wp2;go_loopw [3,6] (λk b wr=>∃j:Nat,j<=4/\b= .int .i64 j/\Hid (mX w wr k (ns j))) (λ_ b _=>4-(intOf b).toNat)
 case atStart=>exact⟨0,by omega,rfl,mX.start _⟩
 case round=>
  obtain⟨j,m,rfl,a⟩:=hrel;by_cases p:j<4
  ·have q:Hid ((ns j).length<=100):=by show _<=_;unfold ns;simp;omega
   have r:=Lib.hid (Iu j);generalize ns j=l at*;have E:(j:Int)<4:=oO;go_wp2_with((with_reducible show wpList _ _ _ (⟨_,Op.call ⟨Callee.builtin Builtin.append,_,_⟩,_,_,_,_⟩::_) _ _);(refine nt (base:=w.heap.size) (l:=l) (ao a.out.O (ax _ _)) (by have:=a.out.B.size;simp;omega) rfl _ _ rfl rfl ⟨wr.heap.size,0,none⟩ 1 1 [(j+1,true)] rfl rfl (s7 wr [(j+1,true)] _) (by have:=q.out;omega) ?_;intro v1 n f hg _;have o:Hid (mX w n v1 (l++[(j+1,true)])):=a.out.grow (ax _ _) f hg;clear f hg))
   exact⟨⟨j+1,by omega,by go_num,by show mX _ _ _ _;rw[r.out];exact o.out⟩,by simp[intOf];omega⟩
  ·have u:Hid (j=4):=by show _=_;omega
   have F:decide (j<4)=false:=by simp;omega
   have G:4<=j:=oO;have g:Hid (mX w wr u3 (ns 4)):=by show mX _ _ _ _;rw[<-u.out];exact a.out
   clear a p m;cases c with
   |true=>
    go_wp2;go_ret;exact⟨_,rfl,by rw[Be,if_pos rfl,List.append_nil];exact g.out.sp,g.out.B⟩
   |false=>
    have s:Hid (mX w wr u3 (ns 4++si 0)):=g.out;clear g;go_wp2;go_loopw [3,5] (λk b wr=>∃j:Nat,j<=29/\b= .int .i64 ((j+4:Nat):Int)/\Hid (mX w wr k (ns 4++si j))) (λ_ b _=>33-(intOf b).toNat)
    case atStart=>exact⟨0,by omega,rfl,s.out⟩
    case round=>
     clear s;obtain⟨j,m,rfl,a⟩:=hrel;obtain⟨i,d⟩:∃i,i=j+4:=⟨_,rfl⟩;rw[<-d];by_cases p:j<29
     ·have q:Hid ((ns 4++si j).length<=100):=by show _<=_;unfold ns si;simp;omega
      have r:Hid (ns 4++si (j+1)=(ns 4++si j)++[(i,false)]):=by show _=_;rw[Ii,d,List.append_assoc]
      generalize ns 4++si j=l at*;have H:(i:Int)<=32:=oO;have t:=Lib.hid d;clear d;go_wp2_with((with_reducible show wpList _ _ _ (⟨_,Op.call ⟨Callee.builtin Builtin.append,_,_⟩,_,_,_,_⟩::_) _ _);(refine nt (base:=w.heap.size) (l:=l) (ao a.out.O (ax _ _)) (by have:=a.out.B.size;simp;omega) rfl _ _ rfl rfl ⟨wr.heap.size,0,none⟩ 1 1 [(i,false)] rfl rfl (s7 wr [(i,false)] _) (by have:=q.out;omega) ?_;intro v1 n f hg _;have o:Hid (mX w n v1 (l++[(i,false)])):=a.out.grow (ax _ _) f hg;clear f hg))
      exact⟨⟨j+1,by omega,by show Value.int _ _=_;congr 1;have:=t.out;omega,by show mX _ _ _ _;rw[r.out];exact o.out⟩,by have:=t.out;simp[intOf];omega⟩
     ·have x:i=33:=oO;have y:j=29:=oO;subst x y;clear p m d;go_wp2;go_ret;exact⟨_,rfl,by rw[Be,if_neg oD];exact a.out.sp,a.out.B⟩
theorem BI (L:Nat) (c:Bool) (k size g:Nat) (w:World) (t:L<=32) (O:k<=100000) (hs:size<=100000) (P:g<=100):Calls Tryz.prog 34 #[cn L c,.int .i64 k,.int .i64 size,.int .i64 g] w λe w'=>e= .returned (.bool (uu L c k size g))/\Below w.heap.size w w':=by
 have a:=eV w L c;have B:Hid (∀W,Calls Tryz.prog 57 #[.bool c] W λe w'=>e= .returned (.int .i64 ((eH c:Nat):Int))/\w'=W):=λW=>oy c W;have C:Hid (∀W,Calls Tryz.prog 33 #[cn L c] W λe w'=>e= .returned (.int .i64 ((aB L:Nat):Int))/\Below W.heap.size W w'):=λW=>l8 L c W t;have V:Hid (∀W,Calls Tryz.prog 44 #[cn L c] W λe w'=>e= .returned (.int .i64 ((bH L c:Nat):Int))/\Below W.heap.size W w'):=λW=>sC L c W t;have v:Hid (uu L c k size g=(decide (k<=eH c)&&decide (aB L* k+size* g/100+11<=aB L* bH L c))):=rfl;have X:eH c<=2048:=by cases c<;>decide
 have x:aB L<=12:=by rcases iE L with h|h|h|h<;>omega
 have D:=ub (c:=c) t;have j:Hid (af (w.alloc (bL L c)) (w.alloc (bL L c)).drew):=ai (Below.refl _ _);have J:Hid (∀W,af (w.alloc (bL L c)) W->Below w.heap.size w W):=λW u=>cQ u;generalize eH c=l at*;generalize aB L=z at*;generalize bH L c=A at*;obtain⟨p1,p⟩:∃p1,p1=z* k:=⟨_,rfl⟩;obtain⟨p2,q⟩:∃p2,p2=size* g:=⟨_,rfl⟩;obtain⟨f,y⟩:∃f,f=p2/100:=⟨_,rfl⟩;obtain⟨d,r⟩:∃d,d=z* A:=⟨_,rfl⟩;have ab:p1<=1200000:=by rw[p];exact Nat.mul_le_mul x O
 have ac:p2<=10000000:=by rw[q];exact Nat.mul_le_mul hs P
 have ad:d<=48000:=by rw[r];exact Nat.mul_le_mul x D
 have al:f<=100000:=oO;have am:(z:Int)* (k:Int)=(p1:Int):=by rw[p];simp
 have ap:(size:Int)* (g:Int)=(p2:Int):=by rw[q];simp
 have av:(p2:Int)/100=(f:Int):=by rw[y];simp
 have a0:(z:Int)* (A:Int)=(d:Int):=by rw[r];simp
 have a1:IntKind.i64.wrap (p1:Int)=(p1:Int):=aE _ oO oO;have a2:IntKind.i64.wrap (p2:Int)=(p2:Int):=aE _ oO oO;have a3:IntKind.i64.wrap (f:Int)=(f:Int):=aE _ oO oO;have a4:IntKind.i64.wrap (d:Int)=(d:Int):=aE _ oO oO;obtain⟨o,Y⟩:∃o,o=p1+f:=⟨_,rfl⟩;obtain⟨i,E⟩:∃i,i=p1+f+11:=⟨_,rfl⟩;have a5:IntKind.i64.wrap ((p1:Int)+(f:Int))=(o:Int):=by rw[aE _ oO oO];omega
 have a6:IntKind.i64.wrap ((o:Int)+11)=(i:Int):=by rw[aE _ oO oO];omega
 rw[<-p,<-q,<-y,<-r,<-E]at v;clear p q y r Y E X x D;by_cases m:k<=l
 ·have Z:(k:Int)<=(l:Int):=oO;have s:Hid (uu L c k size g=decide (i<=d)):=by show _=_;rw[v.out,decide_eq_true m,Bool.true_and]
  obtain⟨b,hb⟩:∃b,b=decide (i<=d):=⟨_,rfl⟩;have a7:decide ((i:Int)<=(d:Int))=b:=by rw[hb,decide_eq_decide];omega
  rw[<-hb]at s;have a8:decide (i<=d)=b:=hb.symm;clear hb m;go_enter Tryz.func34,Tryz.ntmps34;go_wp2;refine yO (af (w.alloc (bL L c))) [1,2,3,0,4,0,5,6,7,9,11,12,13,14,17,19,0,8,0,10,15,16,0,18,20,0,21,22,23,24] j.out ?_
  repeat first|refine zO a.out ?_|refine zX a.out ?_
  refine zZ ?_;refine(B.out _).mono ?_;rintro e Q ⟨rfl,n⟩;rw[n];clear n;refine⟨_,rfl,j.out,jO ?_⟩
  repeat first|refine zO a.out ?_|refine zX a.out ?_
  refine zZ ?_;refine(C.out _).mono ?_;rintro e S ⟨rfl,K⟩;have F:Hid (af (w.alloc (bL L c)) S):=aa j.out K;clear K;refine⟨_,rfl,F.out,jO ?_⟩
  repeat first|refine zO a.out ?_|refine zX a.out ?_
  refine zZ ?_;refine(C.out _).mono ?_;rintro e T ⟨rfl,M⟩;have G:Hid (af (w.alloc (bL L c)) T):=aa F.out M;clear M;refine⟨_,rfl,G.out,jO ?_⟩
  repeat first|refine zO a.out ?_|refine zX a.out ?_
  refine zZ ?_;refine(V.out _).mono ?_;rintro e U ⟨rfl,N⟩;have H:Hid (af (w.alloc (bL L c)) U):=aa G.out N;clear N;refine⟨_,rfl,H.out,jO ?_⟩
  repeat first|refine zO a.out ?_|refine zX a.out ?_
  refine ag ?_;go_wp2;go_ret;exact⟨by rw[s.out];rfl,J.out _ H.out⟩
 ·have Z:¬(k:Int)<=(l:Int):=oO;have a9:decide (k<=l)=false:=decide_eq_false m;have s:Hid (uu L c k size g=false):=by show _=_;rw[v.out,decide_eq_false m,Bool.false_and]
  have bb:l<k:=oO;clear m;go_enter Tryz.func34,Tryz.ntmps34;go_wp2;refine yO (af (w.alloc (bL L c))) [1,2,3,0,4,0,5,6,7,9,11,12,13,14,17,19,0,8,0,10,15,16,0,18,20,0,21,22,23,24] j.out ?_
  repeat first|refine zO a.out ?_|refine zX a.out ?_
  refine zZ ?_;refine(B.out _).mono ?_;rintro e Q ⟨rfl,n⟩;rw[n];clear n;refine⟨_,rfl,j.out,jO ?_⟩
  repeat
   first
   |(refine' tX rfl ?_;simp only[yQ,yU,yX,yY])
   |(refine' sJ rfl j.out ?_;simp only[yQ,yU,yX,yY])
   |(refine' lW rfl (λW u=>?_) ?_;rotate_left;(· have bd:=a.out W u;go_simp;rfl);simp only[yQ,yU,yX,yY])
  refine ag ?_;go_wp2;go_ret;exact⟨by rw[s.out];rfl,J.out _ j.out⟩
theorem SG.rd {w:World} {v:Value} {l:List Nat} (h:SG vN 0 w v l):∃A n c,v= .slice A n c/\n=l.length/\SR vN 0 w A n c l/\RD w A (zl l):=by
 obtain⟨A,n,c,rfl,hs⟩:=h.parts;obtain⟨b,d,e,-,-,a⟩:=aq.vc h;injection e with e1 e2 e3;exact⟨A,n,c,rfl,hs.hn,hs,by rw[e1];exact a⟩
theorem aq.CP {w:World} {v:Value} {l:List Nat} (h:aq w v (zl l)):∃A n c,v= .slice A n c/\n=l.length/\SR vN 0 w A n c l/\RD w A (zl l):=SG.rd (aq.Mp h)
noncomputable def iP (L k:Int) (c:Bool):List Bool×Int:=if fM L c=false then([],14)else if k<1\/((eH c:Nat):Int)<k then([],3)else(ig L.toNat c k.toNat,0)
theorem yo (a b:Nat) (c:Bool):(bh a (dY c)++bh b (fe c)).length=gA c* 4:=by
 rw[List.length_append,bM,bM];cases c<;>rfl
theorem zL (L k:Nat) (c:Bool) (w:World) (N:1<=L) (O:L<=32) (hc:c=true->L<=4) (b7:1<=k) (P:k<=eH c):Calls Tryz.prog 23 #[.int .i64 L,.int .i64 k,.bool c] w (RT vB false w (ig L c k,0)):=by
 have b8:=eV w L c;have al:Hid (∀W,Calls Tryz.prog 29 #[cn L c] W λe w'=>e= .returned (.bool true)/\Below W.heap.size W w'):=λW=>by rw[<-exB_of N O hc];exact fO L c W
 have am:Hid (∀W,Calls Tryz.prog 57 #[.bool c] W λe w'=>e= .returned (.int .i64 ((eH c:Nat):Int))/\w'=W):=λW=>oy c W;have ap:Hid (∀W,Calls Tryz.prog 58 #[.bool c] W λe w'=>e= .returned (.tuple #[.int .i64 ((dY c:Nat):Int),.int .i64 ((fe c:Nat):Int),.int .i64 ((du c:Nat):Int)])/\w'=W):=λW=>rp c W;obtain⟨B,hB⟩:∃B,B=bh (L-1) (dY c)++bh (k-1) (fe c):=⟨_,rfl⟩;have o:B.length=gA c* 4:=by rw[hB];exact yo _ _ _
 have av:gA c<=4:=by cases c<;>decide
 have b3:1<=gA c:=by cases c<;>decide
 have j:=eO B 4 (gA c);have n:=mJ B 4 (gA c);have K:ig L c k=bc (fa 16 19 (du c) 1 (aL B 4 (gA c))) 4:=by rw[BD,hB]
 have l:=wv c;have a0:du c<=6:=by cases c<;>decide
 have b4:gA c+du c<=15:=by cases c<;>decide
 have g:=sV (Gk Ih) (par:=du c) (first:=1) n;change nD 16 19 (du c) 1 _ (fa 16 19 (du c) 1 (aL B 4 (gA c)))at g;have p:=g.ln;have M:=g.lt;rw[j]at p;have c5:k<=2048:=by
  have:eH c<=2048:=by cases c<;>decide
  omega
 have c6:dY c<=11/\fe c<=11:=by cases c<;>decide
 obtain⟨b,q⟩:∃b,b=L-1:=⟨_,rfl⟩;obtain⟨f,r⟩:∃f,f=k-1:=⟨_,rfl⟩;have c7:(L:Int)-1=(b:Int):=oO;have c8:(k:Int)-1=(f:Int):=oO;rw[<-q,<-r]at hB;have a1:Hid (∀W,Calls Tryz.prog 61 #[.int .i64 4,.int .i64 ((du c:Nat):Int)] W λe w'=>e= .returned (.tuple #[cf 2 16 19 (du c) 1,.int .i64 0])/\Below W.heap.size W w'):=λW=>rQ (du c) W l;have b5:Hid (∀W,Calls Tryz.prog 59 #[.slice none 0 0,.int .i64 b,.int .i64 ((dY c:Nat):Int)] W (RT vB false W (bh b (dY c),0))):=λW=>tk none 0 0 [] b (dY c) W oO oO oO ⟨rfl,Nat.le_refl _,Nat.zero_le _,RG.dR _ _⟩;have b6:Hid (∀W A m a,SR vB false W A m a (bh b (dY c))->Calls Tryz.prog 59 #[.slice A m a,.int .i64 f,.int .i64 ((fe c:Nat):Int)] W (RT vB false W (B,0))):=by
  show∀W A m a,_->_;intro W A m a hs;have:=hs.hn;rw[bM]at this;rw[hB];exact tk A m a _ f (fe c) W oO oO oO hs
 have a2:Hid (∀W A m a,SR vB false W A m a B->Calls Tryz.prog 60 #[.slice A m a,.int .i64 4,.bool false] W (RT vN 0 W (aL B 4 (gA c),0))):=by
  show∀W A m a,_->_;intro W A m a hs;have d:=hs.hn;rw[o]at d;exact vT A m a 4 (gA c) B W oO oO d oO hs
 have a3:Hid (∀W A m a,SR vN 0 W A m a (aL B 4 (gA c))->RD W A (zl (aL B 4 (gA c)))->Calls Tryz.prog 62 #[cf 2 16 19 (du c) 1,.slice A m a] W (jK W (zl (fa 16 19 (du c) 1 (aL B 4 (gA c))),0))):=by
  show∀W A m a,_->_->_;intro W A m a hs Q;have d:=hs.hn;have S:=d;rw[j]at S;exact tz 2 16 19 (du c) 1 _ m A a W l d n oO oO Q
 have a4:Hid (∀W A m a,SR vN 0 W A m a (fa 16 19 (du c) 1 (aL B 4 (gA c)))->Calls Tryz.prog 63 #[.slice A m a,.int .i64 4] W (RT vB false W (ig L c k,0))):=by
  show∀W A m a,_->_;intro W A m a hs;have d:=hs.hn;rw[K];exact nh A m a 4 _ W oO oO oO M hs
 have c9:k<=eH c:=P;clear hB o j n K l a0 b4 g p M q r hc av b3;generalize dY c=lb at*;generalize fe c=db at*;generalize du c=mp at*;generalize aL B 4 (gA c)=T at*;generalize fa 16 19 mp 1 T=b9 at*;generalize ig L c k=ca at*;generalize bh b lb=cb at*;have di:¬(k:Int)<1:=oO;generalize eH c=U at*;have dl:¬(U:Int)<(k:Int):=oO;go_enter Tryz.func23,Tryz.ntmps23
 go_wp2_with(first
  |(go_at_call 29;refine(al.out _).mono ?_;rintro e V ⟨rfl,s⟩;have a5:Hid (Below w.heap.size w V):=cQ s;clear s)
  |(go_at_call 57;refine(am.out _).mono ?_;rintro e ce ⟨rfl,t⟩;rw[t];clear t)
  |(go_at_call 58;refine(ap.out _).mono ?_;rintro e cg ⟨rfl,u⟩;rw[u];clear u)
  |(go_at_call 59;(with_reducible show Calls _ _ #[.slice none 0 0,_,_] _ _);refine(b5.out _).mono ?_;rintro e X ⟨v4,rfl,v,x⟩;obtain⟨ch,n4,ci,rfl,a6⟩:=v.parts;have a7:=Lib.hid a6;have a8:Hid (Below w.heap.size w X):=aa a5.out x;clear v x)
  |(go_at_call 59;refine(b6.out _ _ _ _ a7.out).mono ?_;rintro e Y ⟨ck,rfl,y,z⟩;obtain⟨co,cp,cq,rfl,a9⟩:=y.parts;have bb:=Lib.hid a9;have bd:Hid (Below w.heap.size w Y):=aa a8.out z;clear y z)
  |(go_at_call 60;refine(a2.out _ _ _ _ bb.out).mono ?_;rintro e Z ⟨v6,rfl,C,D⟩;obtain⟨cr,cs,cv,rfl,-,be,E⟩:=C.rd;have bf:=Lib.hid be;have bi:=Lib.hid E;have bo:Hid (Below w.heap.size w Z):=aa bd.out D;clear C D E)
  |(go_at_call 61;refine(a1.out _).mono ?_;rintro e ab ⟨rfl,i⟩;have bq:Hid (Below w.heap.size w ab):=aa bo.out i;have bs:=Lib.hid (bf.out.below i);have bt:=Lib.hid (bi.out.below i);clear i)
  |(go_at_call 62;refine(a3.out _ _ _ _ (bs.out.below (ax _ _)) (bt.out.below (ax _ _))).mono ?_;rintro e ac ⟨cx,rfl,F,G⟩;obtain⟨cy,c2,c3,rfl,-,bv,-⟩:=aq.CP F;have bx:=Lib.hid bv;have bz:Hid (Below w.heap.size w ac):=aa (ah bq.out _) G;clear F G)
  |(go_at_call 63;refine(a4.out _ _ _ _ bx.out).mono ?_;rintro e ad ⟨c4,rfl,H,J⟩;have b1:=Lib.hid H;have b2:Hid (Below w.heap.size w ad):=aa bz.out J;clear H J))
 go_ret2
 exact RT.mk rfl b1.out b2.out
theorem JH (L k:Int) (c:Bool) (w:World):Calls Tryz.prog 23 #[.int .i64 L,.int .i64 k,.bool c] w (RT vB false w (iP L k c)):=by
 cases a:fM L c with
 |false=>
  have d:Hid (iP L k c=([],14)):=by show _=_;unfold iP;rw[if_pos a]
  have j:Hid (∀W,Calls Tryz.prog 29 #[cn L c] W λe w'=>e= .returned (.bool false)/\Below W.heap.size W w'):=λW=>by rw[<-a];exact fO L c W
  clear a;go_enter Tryz.func23,Tryz.ntmps23;go_wp2_with(go_at_call 29;refine(j.out _).mono ?_;rintro e f ⟨rfl,b⟩;have g:Hid (Below w.heap.size w f):=cQ b;clear b)
  go_ret2
  exact RT.mk d.out (SG.dR _) g.out
 |true=>
  obtain⟨L,rfl,m,n,o⟩:=nH a;have r:Hid (∀W,Calls Tryz.prog 57 #[.bool c] W λe w'=>e= .returned (.int .i64 ((eH c:Nat):Int))/\w'=W):=λW=>oy c W;have j:Hid (∀W,Calls Tryz.prog 29 #[cn L c] W λe w'=>e= .returned (.bool true)/\Below W.heap.size W w'):=λW=>by rw[<-a];exact fO L c W
  by_cases i:k<1\/((eH c:Nat):Int)<k
  ·have d:Hid (iP L k c=([],3)):=by show _=_;unfold iP;rw[if_neg (by rw[a];decide),if_pos i]
   generalize eH c=p at*;by_cases t:k<1
   ·clear a i;go_enter Tryz.func23,Tryz.ntmps23;go_wp2_with(go_at_call 29;refine(j.out _).mono ?_;rintro e f ⟨rfl,b⟩;have g:Hid (Below w.heap.size w f):=cQ b;clear b)
    go_ret2
    exact RT.mk d.out (SG.dR _) g.out
   ·have u:(p:Int)<k:=oO;clear a i;go_enter Tryz.func23,Tryz.ntmps23
    go_wp2_with(first
     |(go_at_call 29;refine(j.out _).mono ?_;rintro e f ⟨rfl,b⟩;have g:Hid (Below w.heap.size w f):=cQ b;clear b)
     |(go_at_call 57;refine(r.out _).mono ?_;rintro e s ⟨rfl,l⟩;rw[l];clear l))
    go_ret2
    exact RT.mk d.out (SG.dR _) g.out
  ·obtain⟨q,rfl⟩:∃q:Nat,k=q:=⟨k.toNat,by omega⟩;have d:iP L q c=(ig L c q,0):=by unfold iP;rw[if_neg (by rw[a];decide),if_neg i];rfl
   rw[d];exact zL L q c w m n o oO oO
theorem tB {l:List UInt8} {C:Nat->Nat->Nat} (hl:l.length<=60) (a:cT (bA l) C) (L:Nat) {ws:List Nat} (b:ws=aU (cZ l) (aB L)):aj (2^aB L) ws/\ws.length<=(cZ l).length/\(cZ l).length<=ws.length* aB L/\(cZ l).length<=501:=by
 have f:=uD oO a;have g:=iE L;obtain⟨e,e1,e2,e3,e4,e5,e6,e7⟩:=ra (cZ l) (aB L) oO oO oO;rw[<-b]at e4 e6 e7;refine⟨λi=>?_,e7,e4,by omega⟩;rcases Nat.lt_or_ge i ws.length with hi|hi
 ·have:ws.getD i 0∈ws:=by simp only[List.getD,List.getElem?_eq_getElem hi,Option.getD_some];exact List.getElem_mem hi
  have:=(e6 _ this).2;omega
 ·rw[iW hi];exact Nat.two_pow_pos _
theorem DH {L:Nat} {c:Bool} {ws:List Nat} (hw:aj (2^aB L) ws):nD (2^aB L) (pO (aB L)) (bH L c-ws.length) 1 ws (xF L c ws):=sV (Gk (uk L)) hw
theorem tC {L:Nat} {c:Bool} {ws:List Nat} (hw:aj (2^aB L) ws) (hk:ws.length<=bH L c):(xF L c ws).length=bH L c:=by rw[(DH hw).ln];omega
theorem BV {L:Nat} {c:Bool} {ws:List Nat} (hw:aj (2^aB L) ws) (hk:ws.length<=bH L c):(ng L c ws).length=bH L c* aB L:=by unfold ng;rw[dc,tC hw hk]
theorem Eh (L:Nat) (c:Bool):bH L c* aB L<=iT L c:=Nat.div_mul_le_self _ _
theorem tw (L:Nat) (c:Bool) (k:Nat):(ig L c k).length=if c=true then 28 else 40:=by
 unfold ig;rw[dc,pg,eO];cases c<;>rfl
section
variable {L : Nat} {c : Bool} (h1 : 1 ≤ L) (hL : L ≤ 32) (hc : c = true → L ≤ 4) {ws : List Nat} (hw : aj (2 ^ aB L) ws) (hk : ws.length ≤ bH L c)
include h1 hL hw hk
end
theorem getD_set_ne (d:List Bool) {i j:Nat} (b:Bool) (h:i≠j):(d.set i b).getD j false=d.getD j false:=by
 simp only[List.getD];rw[List.getElem?_set_ne h]
section
variable {n : Nat} {d : List Bool} {ps : List Pt} (hi : ∀ p ∈ ps, jP n p < d.length) (hn : ps.Pairwise fun p q => jP n p ≠ jP n q)
include hi hn
end
section
variable {L : Nat} {c : Bool} (h1 : 1 ≤ L) (hL : L ≤ 32) (hc : c = true → L ≤ 4) {ws : List Nat} (hw : aj (2 ^ aB L) ws) (hk : ws.length ≤ bH L c)
include h1 hL hw hk
end
end
end Go.Proofs.YtmnlkganmgcpbaaGreatDoor
