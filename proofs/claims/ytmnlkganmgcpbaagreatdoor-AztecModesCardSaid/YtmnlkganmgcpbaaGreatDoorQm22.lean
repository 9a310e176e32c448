import Derived.Test.YtmnlkganmgcpbaaGreatDoorQm21
set_option maxRecDepth 100000
set_option maxHeartbeats 4000000
set_option linter.unusedVariables false
set_option linter.unusedSectionVars false
set_option linter.unusedSimpArgs false
namespace Go.Proofs.YtmnlkganmgcpbaaGreatDoor
section
open Go.RowKit
theorem sZ:(Tryz.prog.info? 91).map (·.zero)=some (some (.agg #[.int .i64 0,.int .i64 0,.int .i64 0,.int .i64 0,.int .i64 0])):=oK
theorem zf:(Tryz.prog.info? 91).map (·.size)=some 5:=oK
theorem xL:(Tryz.prog.info? 71).map (·.zero)=some (some (.agg #[.int .i64 0,.bool false,.int .i64 0,.int .i64 0])):=oK
theorem E0:(Tryz.prog.info? 71).map (·.size)=some 4:=oK
theorem GP:Tryz.prog.underlying 40=some (.slice (Tryz.prog.elem 40)):=oK
theorem H6 (w:World):(sizeOf (Tryz.prog.elem 40)).run Tryz.prog w= .ok 2 w:=oK
theorem CL {a:Act} {d:Oper} {W:World} {x i:Operand} (e:d.op= .slice 40 x (some i) none none) {A:Option Addr} {n c:Nat} (f:a.eval x= .slice A n c) (k:Nat) (g:a.eval i= .int .i64 (k:Int)) (m:k<=n) {v:Value} (j:sliced A k n c 2=v):
 (execOp a.eval d).run Tryz.prog W= .ok (.value v) W:=by
 subst j;have b:=run_slice_l (P:=Tryz.prog) W 40 A n c GP .i64 (k:Int) oO oO;rw[H6]at b;simp only[Result.andThen_ok,Int.toNat_natCast]at b;have l:=run_sliceAt_slice (P:=Tryz.prog) W 40 (.slice A n c) (some (.int .i64 (k:Int))) none none GP;unfold execOp;simp only[e,f,g,Option.map_some,Option.map_none,Sem.run_bind,Sem.run_pure,Result.andThen_ok,l,b]
theorem fN.from {B:Nat} {w:World} {A:Option Addr} {n c:Nat} {xs:List Pt} (h:fN B w (.slice A n c) xs) (k:Nat) (u:k<=n):fN B w (sliced A k n c 2) (xs.drop k):=by
 obtain⟨⟨d,v,e,x,y,p⟩,f⟩:=h;injection e with e1 e2 e3;subst e1 e2 e3;by_cases o:c=k
 ·have q:xs.drop k=[]:=List.drop_eq_nil_of_le oO;rw[q];unfold sliced;rw[if_pos o];have r:xs.length-k=0:=oO;rw[r];exact⟨⟨A,c-k,rfl,Nat.zero_le _,by omega,λh=>absurd h oS⟩,λd m s i e1 e2=>by injection e1 with e1 _ _;exact f A xs.length c i rfl (e1.trans e2)⟩
 ·unfold sliced;rw[if_neg o];refine⟨⟨_,c-k,by rw[List.length_drop],by rw[List.length_drop];omega,by omega,λhn=>?_⟩,λd m s i e1 e2=>?_⟩
  ·rw[List.length_drop]at hn;obtain⟨g,a,e,hg,hc⟩:=p oO;refine⟨g,a+k* 2,by rw[e,Option.map_some,add_plain],hg,λj t=>?_⟩;rw[List.length_drop]at t;have b:=hc (k+j) oO;have e6:(xs.drop k).getD j (0,0)=xs.getD (k+j) (0,0):=by simp[List.getD]
   rw[e6,show a+k* 2+j* 2=a+(k+j)* 2 from by omega];exact b
  ·injection e1 with e1 _ _;rw[e2]at e1;cases A with
   |none=>cases e1
   |some l=>
    have b:=f (some l) xs.length c l rfl rfl;simp only[Option.map_some]at e1;injection e1 with e1;rw[<-e1,aI];exact b
theorem SR.Mj {α:Type} {f:α->Value} {d:α} {w W:World} {db:Nat} {A:Option Addr} {n c:Nat} {l:List α} (h:SR f d w A n c l) (b:aF db w W) (g:∀a,A=some a->a.block≠db):SR f d W A n c l:=by
 refine⟨h.hn,h.hc,h.hm,λi=>?_⟩;obtain⟨a,e,hl,hc⟩:=h.rd i;exact⟨a,e,Nat.lt_of_lt_of_le hl b.sz,λj k=>(b.cell (by rw[aI];exact hl) (by rw[aI];exact g a e)).trans (hc j k)⟩
abbrev oV (L:Nat) (c:Bool) (k n db N:Nat):Value:= .agg #[.int .i64 (L:Int),.bool c,.int .i64 (k:Int),.int .i64 (n:Int),.int .i64 (n:Int),.slice (some ⟨db,0,none⟩) N N]
abbrev bk:Array Value:=#[.int .i64 0,.bool false,.int .i64 0,.int .i64 0,.int .i64 0,.slice none 0 0]
def Md (d:World) (L:Nat) (c:Bool) (z e S P par:Nat) (A:Option Addr) (m f:Nat) (a a':Act) (W:World):Prop:=∃b,a'=(((((((((((((a.put (some 15) (cn L c)).put (some 17) (cn L c)).put (some 19) (.slice A m f)).put (some 20) (.int .i64 m)).put (some 16) (.int .i64 z)).put (some 18) (.int .i64 e)).put (some 21) (.int .i64 par)).put (some 22) (.tuple #[cf 2 S P par 1,.int .i64 0])).put (some 14) (.tuple #[cf 2 S P par 1,.int .i64 0])).put (some 23) (cf 2 S P par 1)).put (some 24) (.int .i64 0)).put (some 6) (.pointer (some ⟨b,0,none⟩))).put (some 7) (.int .i64 0))/\ae W b (gG 2 S P par 1).toArray 91/\af d W/\d.heap.size<=b
def Mk (d:World) (f L:Nat) (c:Bool) (n C e:Nat) (a a':Act) (W:World):Prop:=∃b,a'=((((((a.put (some 64) (cn L c)).put (some 66) (.pointer (some ⟨f,1,none⟩))).put (some 67) (.bool c)).put (some 65) (.int .i64 n)).put (some 68) (fQ n c C e)).put (some 11) (.pointer (some ⟨b,0,none⟩)))/\ae W b (iA n c C e).toList.toArray 71/\af d W/\d.heap.size<=b
theorem vP (L:Nat) (c:Bool) (f:List Nat) (A:Option Addr) (m bf:Nat) (w:World) (x:1<=L) (D:L<=32) (hc:c=true->L<=4) (bi:aj (2^aB L) f) (gg:1<=f.length) (gi:f.length<=eH c) (u:f.length<bH L c) (hs:SR vN 0 w A m bf f):
 Calls Tryz.prog 35 #[cn L c,.slice A m bf] w λe w'=>∃db N,N=aD L c* aD L c/\e= .returned (.tuple #[oV L c m (aD L c) db N,.int .i64 0])/\bu w' db (kB L c f)/\w.heap.size<=db/\Below w.heap.size w w':=by
 have ci:m=f.length:=hs.hn;have k4:RD w A (zl f):=by
  obtain⟨fo,fr,M,e,-,-,dx⟩:=SG.rd hs.sg;injection e with e1 e2 e3;rw[e1];exact dx
 have n8:=Fh (c:=c) x D hc;have n9:=iE L;have oa:=Al (c:=c) x D;have bt:=uA L c x D;have sn:=LQ c;have v6:=ub (c:=c) D;have fv:=DH (c:=c) bi;have ob:=tC (c:=c) bi oO;have k5:=BV (c:=c) bi oO;have oi:=Eh L c;have oj:=Cf L c;have ol:=room_le (c:=c) D;have k7:dF 2 (2^aB L) (pO (aB L)) (bH L c-f.length) 1:=It (uk L) oO oO;have sp:f.length+(bH L c-f.length)=bH L c:=oO;have d5:Hid (∀W,Calls Tryz.prog 33 #[cn L c] W λe w'=>e= .returned (.int .i64 ((aB L:Nat):Int))/\Below W.heap.size W w'):=λW=>l8 L c W D;have d6:Hid (∀W,Calls Tryz.prog 44 #[cn L c] W λe w'=>e= .returned (.int .i64 ((bH L c:Nat):Int))/\Below W.heap.size W w'):=λW=>sC L c W D;have go:Hid (∀W,Calls Tryz.prog 36 #[cn L c] W λe w'=>e= .returned (.int .i64 ((aD L c:Nat):Int))/\Below W.heap.size W w'):=λW=>qH L c W D;have d7:Hid (∀W,Calls Tryz.prog 39 #[.int .i64 ((aD L c:Nat):Int),.bool c] W λe w'=>e= .returned (fQ (aD L c) c (dd L c) (cK c))/\Below W.heap.size W w'):=λW=>tG (aD L c) c W oO oO;have om:Hid (∀W,Calls Tryz.prog 83 #[fQ (aD L c) c (dd L c) (cK c)] W λe w'=>∃db N,N=aD L c* aD L c/\e= .returned (Ev (aD L c) (aD L c) db N)/\W.heap.size<=db/\bu w' db (pk (aD L c) (dd L c) c)/\Below W.heap.size W w'):=λW=>Gz (aD L c) (dd L c) (cK c) c W rfl oO oO oO;have oo:Hid (∀W,Calls Tryz.prog 46 #[cn L c] W λe w'=>∃v,e= .returned v/\fN W.heap.size w' v (eX L c)/\Below W.heap.size W w'):=λW=>AR L c W D;have op:Hid (∀W,Calls Tryz.prog 43 #[fQ (aD L c) c (dd L c) (cK c)] W λe w'=>∃v,e= .returned v/\fN W.heap.size w' v (fS (dd L c) c)/\Below W.heap.size W w'):=λW=>ry (aD L c) (dd L c) c W oO oO;have os:Hid (∀W,Calls Tryz.prog 23 #[.int .i64 L,.int .i64 m,.bool c] W (RT vB false W (ig L c f.length,0))):=λW=>by rw[ci];exact zL L f.length c W x D hc gg gi
 have bv:Hid (∀W,Calls Tryz.prog 61 #[.int .i64 ((aB L:Nat):Int),.int .i64 ((bH L c-f.length:Nat):Int)] W λe w'=>e= .returned (.tuple #[cf 2 (2^aB L) (pO (aB L)) (bH L c-f.length) 1,.int .i64 0])/\Below W.heap.size W w'):=λW=>JN (aB L) (bH L c-f.length) W (uk L) oO oO;have gq:Hid (∀W,RD W A (zl f)->Calls Tryz.prog 62 #[cf 2 (2^aB L) (pO (aB L)) (bH L c-f.length) 1,.slice A m bf] W (jK W (zl (xF L c f),0))):=λW dx=>tz 2 (2^aB L) (pO (aB L)) (bH L c-f.length) 1 f m A bf W k7 ci bi oO oO dx;have ot:Hid (∀W A m M,SR vN 0 W A m M (xF L c f)->Calls Tryz.prog 63 #[.slice A m M,.int .i64 ((aB L:Nat):Int)] W (RT vB false W (ng L c f,0))):=by
  show∀W A m M,_->_;intro W A m M gs;have t5:=gs.hn;exact nh A m M (aB L) _ W oO oO oO fv.lt gs
 have k9:∀p∈eX L c,jP (aD L c) p<aD L c* aD L c:=λp O=>zd (Dp D O).1 (Dp D O).2;have la:∀p∈fS (dd L c) c,jP (aD L c) p<aD L c* aD L c:=λp O=>by have:=KS (c:=c) (C:=dd L c) oO O;exact zd oO oO
 have lc:Hid (∀p∈(eX L c).drop ((eX L c).length-(ng L c f).length),jP (aD L c) p<(pk (aD L c) (dd L c) c).length):=by show∀p∈_,_;intro p O;rw[o7];exact k9 p (List.mem_of_mem_drop O)
 have st:Hid (∀l:List Bool,l.length=aD L c* aD L c->∀p∈fS (dd L c) c,jP (aD L c) p<l.length):=by show∀l:List Bool,_;intro l hl p O;rw[hl];exact la p O
 have gt:Hid (wrL (aD L c) (wrL (aD L c) (pk (aD L c) (dd L c) c) ((eX L c).drop ((eX L c).length-(ng L c f).length)) (ng L c f)) (fS (dd L c) c) (ig L c f.length)=kB L c f):=rfl;have gv:=Lib.hid (o7 (aD L c) (dd L c) c);have gx:=Lib.hid (λd ps m0=>fT (aD L c) d ps m0);have gy:Hid (((eX L c).drop ((eX L c).length-(ng L c f).length)).length=(ng L c f).length):=by show _=_;rw[List.length_drop];omega
 have ov:Hid ((fS (dd L c) c).length=(ig L c f.length).length):=by show _=_;rw[tw,Cp]
 have sv:Hid (1<=(ig L c f.length).length):=by show _<=_;rw[tw];split<;>omega
 have li:1<=(ng L c f).length:=by rw[k5];exact Nat.mul_pos oO oO
 have sy:=Lib.hid li;have gz:(ng L c f).length<=(eX L c).length:=oO;have s1:(eX L c).length<=20000:=oO;have gC:aD L c<=161:=bt.2;obtain⟨par,ll⟩:∃par,par=bH L c-f.length:=⟨_,rfl⟩;have t1:par+f.length=bH L c:=oO;rw[<-ll]at bv gq;clear fv ob k5 oi oj ol k7 sp n8 oa sn bi gg gi k9 la ll li u bt x D hc;generalize kB L c f=dl at*;generalize xF L c f=t6 at*;generalize ng L c f=K at*;generalize ig L c f.length=gD at*;generalize eX L c=X at*;generalize o0:pk (aD L c) (dd L c) c=ab at*;clear o0;generalize fS (dd L c) c=ex at*;generalize o1:2^aB L=S at*;generalize o2:pO (aB L)=P at*;clear o1 o2;generalize aB L=z at*;generalize bH L c=fw at*;generalize aD L c=n at*;generalize dd L c=C at*;generalize cK c=y at*;have v7:z<=12:=oO;have v8:(fw:Int)-(m:Int)=(par:Int):=oO;have v9:par<=4000:=oO;have wd:IntKind.i64.wrap (par:Int)=(par:Int):=aE _ oO oO;have vA:m<=4000:=oO;clear n9 t1;obtain⟨B,bx⟩:∃B,B=w.heap.size:=⟨_,rfl⟩;obtain⟨j,ck⟩:∃j,j=w.heap.size+1:=⟨_,rfl⟩;obtain⟨a,a3⟩:∃a,a=(w.alloc (bL L c)).alloc (.cells bk 30):=⟨_,rfl⟩;have gN:Hid (Below w.heap.size w a):=by show Below _ _ _;rw[a3];exact ah (ax _ _) _
 have d8:Hid (ae a B #[.int .i64 L,.bool c] 60):=by
  show ae _ _ _ _;rw[a3];have x:ae (w.alloc (bL L c)) B #[.int .i64 L,.bool c] 60:=ae.new _ _ _ _ bx;exact x.below (ax _ _)
 have o3:Hid (ae a j bk 30):=by show ae _ _ _ _;rw[a3];exact ae.new _ _ _ _ (by simp[ck])
 have d9:Hid (w.heap.size<=j/\B<j/\j<a.heap.size/\w.heap.size<=a.heap.size):=by show _/\_;rw[a3,ck,bx];simp;omega
 have s:Hid (∀W,af a W->W.cell? ⟨B,0,none⟩=some (.int .i64 (L:Int))/\W.cell? ⟨B,1,none⟩=some (.bool c)):=λW Q=>⟨(d8.out.below Q).cell 0 _ rfl,(d8.out.below Q).cell 1 _ rfl⟩;have pb:=Lib.hid k4;clear k4 hs;have vG:=Lib.hid ci;clear ci;go_enter Tryz.func35,Tryz.ntmps35;go_wp2;simp only[<-ck,<-a3];simp only[<-bx];clear a3 ck;have v0:=Lib.hid bx;clear bx;have bz:Hid (Below a.heap.size a a.drew):=ai (Below.refl _ _);refine jT (S:=af a) (.br [(false,0),(false,2),(false,4),(false,5)] [1,11] (λk=>if k=1 then .br [] [3,11] (λk=>if k=3 then .br [(false,6)] [7,11] (λk=>if k=7 then .last [(false,8),(false,9),(false,10),(true,11),(true,12),(false,13)]else .last [(true,7),(false,8),(false,9),(false,10),(true,12),(false,13)])else .last [(true,3),(false,6),(true,7),(false,8),(false,9),(false,10),(true,12),(false,13)])else .last [(true,1),(true,3),(false,6),(true,7),(false,8),(false,9),(false,10),(true,12),(false,13)])) (Md a L c z fw S P par A m bf) oK oK bz.out ?_ ?_
 ·simp only[wpTree,attachW,List.getElem?_cons_zero,List.getElem?_cons_succ]
  repeat refine zO s.out ?_
  refine ag ?_;intro k u;simp only[List.mem_cons,List.not_mem_nil,or_false]at u;rcases u with rfl|rfl
  ·simp only[reduceIte,Nat.reduceEqDiff,wpTree,attachW,List.getElem?_cons_zero,List.getElem?_cons_succ];refine zZ ?_;refine(d5.out _).mono ?_;rintro e dy ⟨rfl,hb⟩;have Y:Hid (af a dy):=aa bz.out hb;clear hb;refine⟨_,rfl,Y.out,jO ?_⟩;refine ag ?_
   (try simp only[reduceIte,Nat.reduceEqDiff,wpTree,attachW,List.getElem?_cons_zero,List.getElem?_cons_succ])
   refine ag ?_;intro k u;simp only[List.mem_cons,List.not_mem_nil,or_false]at u;rcases u with rfl|rfl
   ·simp only[reduceIte,Nat.reduceEqDiff,wpTree,attachW,List.getElem?_cons_zero,List.getElem?_cons_succ];refine zZ ?_;refine(d6.out _).mono ?_;rintro e d0 ⟨rfl,hb⟩;have Z:Hid (af a d0):=aa Y.out hb;clear hb;refine⟨_,rfl,Z.out,jO ?_⟩;refine ag ?_
    (try simp only[reduceIte,Nat.reduceEqDiff,wpTree,attachW,List.getElem?_cons_zero,List.getElem?_cons_succ])
    repeat refine zO s.out ?_
    refine ag ?_;intro k u;simp only[List.mem_cons,List.not_mem_nil,or_false]at u;rcases u with rfl|rfl
    ·simp only[reduceIte,Nat.reduceEqDiff,wpTree,attachW,List.getElem?_cons_zero,List.getElem?_cons_succ];refine zZ ?_;refine(bv.out _).mono ?_;rintro e d1 ⟨rfl,hb⟩;have ad:Hid (af a d1):=aa Z.out hb;clear hb;refine⟨_,rfl,ad.out,jO ?_⟩;refine ag ?_
     (try simp only[reduceIte,Nat.reduceEqDiff,wpTree,attachW,List.getElem?_cons_zero,List.getElem?_cons_succ])
     repeat refine zO s.out ?_
     obtain⟨d2,co⟩:∃g,g=d1.alloc (.cells #[.int .i64 0,.int .i64 0,.int .i64 0,.int .i64 0,.int .i64 0] 91):=⟨_,rfl⟩;obtain⟨a0,al⟩:∃b,b=d1.heap.size:=⟨_,rfl⟩;have cp:Hid (af a d2):=by show Below _ _ _;rw[co];exact ah ad.out _
     have fx:Hid (ae d2 a0 #[.int .i64 0,.int .i64 0,.int .i64 0,.int .i64 0,.int .i64 0] 91):=by show ae _ _ _ _;rw[co,al];exact ae.new _ _ _ _ rfl
     have fz:Hid (a.heap.size<=a0):=by show _<=_;rw[al];exact ad.out.size
     refine' fi 91 rfl rfl _ sZ (ah ad.out _) ?_;simp only[yQ,yU,yX,yY];rw[<-co,<-al];clear co al;obtain⟨f0,b1⟩:∃g,g=d2.setRow a0 (gG 2 S P par 1).toArray:=⟨_,rfl⟩;have g0:Hid (af a f0):=by show Below _ _ _;rw[b1];exact below_setRow cp.out fz.out _
     have m1:Hid (ae f0 a0 (gG 2 S P par 1).toArray 91):=by show ae _ _ _ _;rw[b1];exact ae.set fx.out _
     refine fR 91 rfl _ _ rfl 91 a0 #[.int .i64 0,.int .i64 0,.int .i64 0,.int .i64 0,.int .i64 0] (gG 2 S P par 1) fx.out rfl rfl zf rfl (by intro v r;simp only[List.mem_cons,List.not_mem_nil,or_false]at r;rcases r with rfl|rfl|rfl|rfl|rfl<;>rfl) (by rw[<-b1];exact g0.out) ?_;rw[<-b1];simp only[yQ,yU,yX,yY];clear b1
     repeat refine zO s.out ?_
     refine ag ?_;refine⟨a0,?_,m1.out,g0.out,fz.out⟩;simp only[yQ,yU,yX,yY]
    ·simp only[reduceIte,Nat.reduceEqDiff,wpTree,attachW,List.getElem?_cons_zero,List.getElem?_cons_succ];obtain⟨f1,cq⟩:∃g,g=d0.alloc (.cells #[.int .i64 0,.int .i64 0,.int .i64 0,.int .i64 0,.int .i64 0] 91):=⟨_,rfl⟩;obtain⟨a1,cr⟩:∃b,b=d0.heap.size:=⟨_,rfl⟩;have pd:Hid (af a f1):=by show Below _ _ _;rw[cq];exact ah Z.out _
     have m2:Hid (ae f1 a1 #[.int .i64 0,.int .i64 0,.int .i64 0,.int .i64 0,.int .i64 0] 91):=by show ae _ _ _ _;rw[cq,cr];exact ae.new _ _ _ _ rfl
     have f2:Hid (a.heap.size<=a1):=by show _<=_;rw[cr];exact Z.out.size
     refine' fi 91 rfl rfl _ sZ (ah Z.out _) ?_;simp only[yQ,yU,yX,yY];rw[<-cq,<-cr];clear cq cr;refine ag ?_
     (try simp only[reduceIte,Nat.reduceEqDiff,wpTree,attachW,List.getElem?_cons_zero,List.getElem?_cons_succ])
     refine zZ ?_;refine(bv.out _).mono ?_;rintro e f3 ⟨rfl,hb⟩;have g1:Hid (af a f3):=aa pd.out hb;have f4:=Lib.hid (m2.out.below hb);clear hb;refine⟨_,rfl,g1.out,jO ?_⟩
     repeat refine zO s.out ?_
     obtain⟨f5,b2⟩:∃g,g=f3.setRow a1 (gG 2 S P par 1).toArray:=⟨_,rfl⟩;have g2:Hid (af a f5):=by show Below _ _ _;rw[b2];exact below_setRow g1.out f2.out _
     have m3:Hid (ae f5 a1 (gG 2 S P par 1).toArray 91):=by show ae _ _ _ _;rw[b2];exact ae.set f4.out _
     refine fR 91 rfl _ _ rfl 91 a1 #[.int .i64 0,.int .i64 0,.int .i64 0,.int .i64 0,.int .i64 0] (gG 2 S P par 1) f4.out rfl rfl zf rfl (by intro v r;simp only[List.mem_cons,List.not_mem_nil,or_false]at r;rcases r with rfl|rfl|rfl|rfl|rfl<;>rfl) (by rw[<-b2];exact g2.out) ?_;rw[<-b2];simp only[yQ,yU,yX,yY];clear b2
     repeat refine zO s.out ?_
     refine ag ?_;refine⟨a1,?_,m3.out,g2.out,f2.out⟩;simp only[yQ,yU,yX,yY]
   ·simp only[reduceIte,Nat.reduceEqDiff,wpTree,attachW,List.getElem?_cons_zero,List.getElem?_cons_succ];obtain⟨f6,cs⟩:∃g,g=dy.alloc (.cells #[.int .i64 0,.int .i64 0,.int .i64 0,.int .i64 0,.int .i64 0] 91):=⟨_,rfl⟩;obtain⟨a2,cv⟩:∃b,b=dy.heap.size:=⟨_,rfl⟩;have pf:Hid (af a f6):=by show Below _ _ _;rw[cs];exact ah Y.out _
    have m4:Hid (ae f6 a2 #[.int .i64 0,.int .i64 0,.int .i64 0,.int .i64 0,.int .i64 0] 91):=by show ae _ _ _ _;rw[cs,cv];exact ae.new _ _ _ _ rfl
    have f7:Hid (a.heap.size<=a2):=by show _<=_;rw[cv];exact Y.out.size
    refine' fi 91 rfl rfl _ sZ (ah Y.out _) ?_;simp only[yQ,yU,yX,yY];rw[<-cs,<-cv];clear cs cv;refine ag ?_
    (try simp only[reduceIte,Nat.reduceEqDiff,wpTree,attachW,List.getElem?_cons_zero,List.getElem?_cons_succ])
    refine zZ ?_;refine(d6.out _).mono ?_;rintro e pi ⟨rfl,hb⟩;have bd:Hid (af a pi):=aa pf.out hb;have pl:=Lib.hid (m4.out.below hb);clear hb;refine⟨_,rfl,bd.out,jO ?_⟩
    repeat refine zO s.out ?_
    refine zZ ?_;refine(bv.out _).mono ?_;rintro e g3 ⟨rfl,hb⟩;have cx:Hid (af a g3):=aa bd.out hb;have g4:=Lib.hid (pl.out.below hb);clear hb;refine⟨_,rfl,cx.out,jO ?_⟩
    repeat refine zO s.out ?_
    obtain⟨g5,b5⟩:∃g,g=g3.setRow a2 (gG 2 S P par 1).toArray:=⟨_,rfl⟩;have cy:Hid (af a g5):=by show Below _ _ _;rw[b5];exact below_setRow cx.out f7.out _
    have pm:Hid (ae g5 a2 (gG 2 S P par 1).toArray 91):=by show ae _ _ _ _;rw[b5];exact ae.set g4.out _
    refine fR 91 rfl _ _ rfl 91 a2 #[.int .i64 0,.int .i64 0,.int .i64 0,.int .i64 0,.int .i64 0] (gG 2 S P par 1) g4.out rfl rfl zf rfl (by intro v r;simp only[List.mem_cons,List.not_mem_nil,or_false]at r;rcases r with rfl|rfl|rfl|rfl|rfl<;>rfl) (by rw[<-b5];exact cy.out) ?_;rw[<-b5];simp only[yQ,yU,yX,yY];clear b5
    repeat refine zO s.out ?_
    refine ag ?_;refine⟨a2,?_,pm.out,cy.out,f7.out⟩;simp only[yQ,yU,yX,yY]
  ·simp only[reduceIte,Nat.reduceEqDiff,wpTree,attachW,List.getElem?_cons_zero,List.getElem?_cons_succ];obtain⟨g6,c2⟩:∃g,g=a.drew.alloc (.cells #[.int .i64 0,.int .i64 0,.int .i64 0,.int .i64 0,.int .i64 0] 91):=⟨_,rfl⟩;obtain⟨a4,ap⟩:∃b,b=a.drew.heap.size:=⟨_,rfl⟩;have b6:Hid (af a g6):=by show Below _ _ _;rw[c2];exact ah bz.out _
   have pp:Hid (ae g6 a4 #[.int .i64 0,.int .i64 0,.int .i64 0,.int .i64 0,.int .i64 0] 91):=by show ae _ _ _ _;rw[c2,ap];exact ae.new _ _ _ _ rfl
   have g7:Hid (a.heap.size<=a4):=by show _<=_;rw[ap];exact bz.out.size
   refine' fi 91 rfl rfl _ sZ (ah bz.out _) ?_;simp only[yQ,yU,yX,yY];rw[<-c2,<-ap];clear c2 ap;refine ag ?_
   (try simp only[reduceIte,Nat.reduceEqDiff,wpTree,attachW,List.getElem?_cons_zero,List.getElem?_cons_succ])
   refine zZ ?_;refine(d5.out _).mono ?_;rintro e pu ⟨rfl,hb⟩;have lm:Hid (af a pu):=aa b6.out hb;have pv:=Lib.hid (pp.out.below hb);clear hb;refine⟨_,rfl,lm.out,jO ?_⟩;refine zZ ?_;refine(d6.out _).mono ?_;rintro e p0 ⟨rfl,hb⟩;have ls:Hid (af a p0):=aa lm.out hb;have p3:=Lib.hid (pv.out.below hb);clear hb;refine⟨_,rfl,ls.out,jO ?_⟩
   repeat refine zO s.out ?_
   refine zZ ?_;refine(bv.out _).mono ?_;rintro e g8 ⟨rfl,hb⟩;have lv:Hid (af a g8):=aa ls.out hb;have g9:=Lib.hid (p3.out.below hb);clear hb;refine⟨_,rfl,lv.out,jO ?_⟩
   repeat refine zO s.out ?_
   obtain⟨ib,b7⟩:∃g,g=g8.setRow a4 (gG 2 S P par 1).toArray:=⟨_,rfl⟩;have lw:Hid (af a ib):=by show Below _ _ _;rw[b7];exact below_setRow lv.out g7.out _
   have p4:Hid (ae ib a4 (gG 2 S P par 1).toArray 91):=by show ae _ _ _ _;rw[b7];exact ae.set g9.out _
   refine fR 91 rfl _ _ rfl 91 a4 #[.int .i64 0,.int .i64 0,.int .i64 0,.int .i64 0,.int .i64 0] (gG 2 S P par 1) g9.out rfl rfl zf rfl (by intro v r;simp only[List.mem_cons,List.not_mem_nil,or_false]at r;rcases r with rfl|rfl|rfl|rfl|rfl<;>rfl) (by rw[<-b7];exact lw.out) ?_;rw[<-b7];simp only[yQ,yU,yX,yY];clear b7
   repeat refine zO s.out ?_
   refine ag ?_;refine⟨a4,?_,p4.out,lw.out,g7.out⟩;simp only[yQ,yU,yX,yY]
 rintro a' bo ⟨bq,rfl,ih,ii,p5⟩;have b3:=Lib.hid ih;have Y:=Lib.hid ii;clear ih ii p5;simp only[yQ,yU,yX,yY];have m5:bo.cell? ⟨bq,0,none⟩=some (.int .i64 2):=b3.out.cell 0 _ rfl;have m6:bo.cell? ⟨bq,1,none⟩=some (.int .i64 S):=b3.out.cell 1 _ rfl;have m7:bo.cell? ⟨bq,2,none⟩=some (.int .i64 P):=b3.out.cell 2 _ rfl;have m8:bo.cell? ⟨bq,3,none⟩=some (.int .i64 par):=b3.out.cell 3 _ rfl;have m9:bo.cell? ⟨bq,4,none⟩=some (.int .i64 1):=b3.out.cell 4 _ rfl
 go_wp2_with(first
  |(go_at_call 62;refine(gq.out _ (pb.out.below (aa gN.out Y.out))).mono ?_;rintro e na ⟨t7,rfl,io,ip⟩;obtain⟨t8,n2,f8,rfl,-,qi,-⟩:=aq.CP io;have qr:=Lib.hid qi;have Z:Hid (Below a.heap.size a na):=aa Y.out ip;clear io ip m5 m6 m7 m8 m9;obtain⟨T,U⟩:=s.out _ Z.out)
  |(go_at_call 33;refine(d5.out _).mono ?_;rintro e nb ⟨rfl,ea⟩;have ad:Hid (Below a.heap.size a nb):=aa Z.out ea;have qs:=Lib.hid (qr.out.below ea);clear ea T U;obtain⟨T,U⟩:=s.out _ ad.out)
  |(go_at_call 63;refine(ot.out _ _ _ _ qs.out).mono ?_;rintro e nc ⟨v4,rfl,it,al⟩;obtain⟨d3,n4,ce,rfl,q0⟩:=it.parts;have q1:=Lib.hid q0;have cp:Hid (Below a.heap.size a nc):=aa ad.out al;clear it al T U;obtain⟨T,U⟩:=s.out _ cp.out)
  |(go_at_call 23;refine(os.out _).mono ?_;rintro e i ⟨t9,rfl,iv,ec⟩;obtain⟨d4,f9,cg,rfl,q2⟩:=iv.parts;have ix:=Lib.hid q2;have ed:=Lib.hid (q1.out.below ec);have bd:Hid (Below a.heap.size a i):=aa cp.out ec;clear iv ec T U))
 have b4:Hid (Below i.heap.size i i.drew):=ai (Below.refl _ _);have q3:Hid (∀W,af i W->W.cell? ⟨B,0,none⟩=some (.int .i64 (L:Int))/\W.cell? ⟨B,1,none⟩=some (.bool c)):=λW Q=>s.out W (aa bd.out Q);refine jT (S:=af i) (.br [(false,0),(false,2),(false,3)] [1,5] (λk=>if k=1 then .br [] [4,5] (λk=>if k=4 then .last [(true,5),(true,6)]else .last [(true,4),(true,6)])else .last [(true,1),(true,4),(true,6)])) (Mk i B L c n C y) oK oK b4.out ?_ ?_
 ·simp only[wpTree,attachW,List.getElem?_cons_zero,List.getElem?_cons_succ]
  repeat refine zO q3.out ?_
  refine ag ?_;intro k u;simp only[List.mem_cons,List.not_mem_nil,or_false]at u;rcases u with rfl|rfl
  ·simp only[reduceIte,Nat.reduceEqDiff,wpTree,attachW,List.getElem?_cons_zero,List.getElem?_cons_succ];refine zZ ?_;refine(go.out _).mono ?_;rintro e ef ⟨rfl,hb⟩;have b8:Hid (af i ef):=aa b4.out hb;clear hb;refine⟨_,rfl,b8.out,jO ?_⟩;refine ag ?_
   (try simp only[reduceIte,Nat.reduceEqDiff,wpTree,attachW,List.getElem?_cons_zero,List.getElem?_cons_succ])
   refine ag ?_;intro k u;simp only[List.mem_cons,List.not_mem_nil,or_false]at u;rcases u with rfl|rfl
   ·simp only[reduceIte,Nat.reduceEqDiff,wpTree,attachW,List.getElem?_cons_zero,List.getElem?_cons_succ];refine zZ ?_;refine(d7.out _).mono ?_;rintro e eh ⟨rfl,hb⟩;have c3:Hid (af i eh):=aa b8.out hb;clear hb;refine⟨_,rfl,c3.out,jO ?_⟩;refine ag ?_
    (try simp only[reduceIte,Nat.reduceEqDiff,wpTree,attachW,List.getElem?_cons_zero,List.getElem?_cons_succ])
    obtain⟨el,c4⟩:∃g,g=eh.alloc (.cells #[.int .i64 0,.bool false,.int .i64 0,.int .i64 0] 71):=⟨_,rfl⟩;obtain⟨a5,c5⟩:∃b,b=eh.heap.size:=⟨_,rfl⟩;have s2:Hid (af i el):=by show Below _ _ _;rw[c4];exact ah c3.out _
    have i0:Hid (ae el a5 #[.int .i64 0,.bool false,.int .i64 0,.int .i64 0] 71):=by show ae _ _ _ _;rw[c4,c5];exact ae.new _ _ _ _ rfl
    have i1:Hid (i.heap.size<=a5):=by show _<=_;rw[c5];exact c3.out.size
    refine' fi 71 rfl rfl _ xL (ah c3.out _) ?_;simp only[yQ,yU,yX,yY];rw[<-c4,<-c5];clear c4 c5;obtain⟨i2,b9⟩:∃g,g=el.setRow a5 ((iA n c C y).toList).toArray:=⟨_,rfl⟩;have lx:Hid (af i i2):=by show Below _ _ _;rw[b9];exact below_setRow s2.out i1.out _
    have q4:Hid (ae i2 a5 ((iA n c C y).toList).toArray 71):=by show ae _ _ _ _;rw[b9];exact ae.set i0.out _
    refine fR 71 rfl _ _ rfl 71 a5 #[.int .i64 0,.bool false,.int .i64 0,.int .i64 0] ((iA n c C y).toList) i0.out rfl rfl E0 rfl (by intro v r;simp only[List.mem_cons,List.not_mem_nil,or_false]at r;rcases r with rfl|rfl|rfl|rfl<;>rfl) (by rw[<-b9];exact lx.out) ?_;rw[<-b9];simp only[yQ,yU,yX,yY];clear b9;refine ag ?_;refine⟨a5,?_,q4.out,lx.out,i1.out⟩;simp only[yQ,yU,yX,yY]
   ·simp only[reduceIte,Nat.reduceEqDiff,wpTree,attachW,List.getElem?_cons_zero,List.getElem?_cons_succ];obtain⟨i3,c6⟩:∃g,g=ef.alloc (.cells #[.int .i64 0,.bool false,.int .i64 0,.int .i64 0] 71):=⟨_,rfl⟩;obtain⟨a6,c7⟩:∃b,b=ef.heap.size:=⟨_,rfl⟩;have s4:Hid (af i i3):=by show Below _ _ _;rw[c6];exact ah b8.out _
    have q5:Hid (ae i3 a6 #[.int .i64 0,.bool false,.int .i64 0,.int .i64 0] 71):=by show ae _ _ _ _;rw[c6,c7];exact ae.new _ _ _ _ rfl
    have i4:Hid (i.heap.size<=a6):=by show _<=_;rw[c7];exact b8.out.size
    refine' fi 71 rfl rfl _ xL (ah b8.out _) ?_;simp only[yQ,yU,yX,yY];rw[<-c6,<-c7];clear c6 c7;refine ag ?_
    (try simp only[reduceIte,Nat.reduceEqDiff,wpTree,attachW,List.getElem?_cons_zero,List.getElem?_cons_succ])
    refine zZ ?_;refine(d7.out _).mono ?_;rintro e i5 ⟨rfl,hb⟩;have ly:Hid (af i i5):=aa s4.out hb;have i6:=Lib.hid (q5.out.below hb);clear hb;refine⟨_,rfl,ly.out,jO ?_⟩;obtain⟨i7,ca⟩:∃g,g=i5.setRow a6 ((iA n c C y).toList).toArray:=⟨_,rfl⟩;have l1:Hid (af i i7):=by show Below _ _ _;rw[ca];exact below_setRow ly.out i4.out _
    have rb:Hid (ae i7 a6 ((iA n c C y).toList).toArray 71):=by show ae _ _ _ _;rw[ca];exact ae.set i6.out _
    refine fR 71 rfl _ _ rfl 71 a6 #[.int .i64 0,.bool false,.int .i64 0,.int .i64 0] ((iA n c C y).toList) i6.out rfl rfl E0 rfl (by intro v r;simp only[List.mem_cons,List.not_mem_nil,or_false]at r;rcases r with rfl|rfl|rfl|rfl<;>rfl) (by rw[<-ca];exact l1.out) ?_;rw[<-ca];simp only[yQ,yU,yX,yY];clear ca;refine ag ?_;refine⟨a6,?_,rb.out,l1.out,i4.out⟩;simp only[yQ,yU,yX,yY]
  ·simp only[reduceIte,Nat.reduceEqDiff,wpTree,attachW,List.getElem?_cons_zero,List.getElem?_cons_succ];obtain⟨i8,c8⟩:∃g,g=i.drew.alloc (.cells #[.int .i64 0,.bool false,.int .i64 0,.int .i64 0] 71):=⟨_,rfl⟩;obtain⟨a7,c9⟩:∃b,b=i.drew.heap.size:=⟨_,rfl⟩;have ta:Hid (af i i8):=by show Below _ _ _;rw[c8];exact ah b4.out _
   have rc:Hid (ae i8 a7 #[.int .i64 0,.bool false,.int .i64 0,.int .i64 0] 71):=by show ae _ _ _ _;rw[c8,c9];exact ae.new _ _ _ _ rfl
   have i9:Hid (i.heap.size<=a7):=by show _<=_;rw[c9];exact b4.out.size
   refine' fi 71 rfl rfl _ xL (ah b4.out _) ?_;simp only[yQ,yU,yX,yY];rw[<-c8,<-c9];clear c8 c9;refine ag ?_
   (try simp only[reduceIte,Nat.reduceEqDiff,wpTree,attachW,List.getElem?_cons_zero,List.getElem?_cons_succ])
   refine zZ ?_;refine(go.out _).mono ?_;rintro e rd ⟨rfl,hb⟩;have l2:Hid (af i rd):=aa ta.out hb;have rf:=Lib.hid (rc.out.below hb);clear hb;refine⟨_,rfl,l2.out,jO ?_⟩;refine zZ ?_;refine(d7.out _).mono ?_;rintro e jp ⟨rfl,hb⟩;have l3:Hid (af i jp):=aa l2.out hb;have jr:=Lib.hid (rf.out.below hb);clear hb;refine⟨_,rfl,l3.out,jO ?_⟩;obtain⟨jv,cb⟩:∃g,g=jp.setRow a7 ((iA n c C y).toList).toArray:=⟨_,rfl⟩;have mb:Hid (af i jv):=by show Below _ _ _;rw[cb];exact below_setRow l3.out i9.out _
   have rg:Hid (ae jv a7 ((iA n c C y).toList).toArray 71):=by show ae _ _ _ _;rw[cb];exact ae.set jr.out _
   refine fR 71 rfl _ _ rfl 71 a7 #[.int .i64 0,.bool false,.int .i64 0,.int .i64 0] ((iA n c C y).toList) jr.out rfl rfl E0 rfl (by intro v r;simp only[List.mem_cons,List.not_mem_nil,or_false]at r;rcases r with rfl|rfl|rfl|rfl<;>rfl) (by rw[<-cb];exact mb.out) ?_;rw[<-cb];simp only[yQ,yU,yX,yY];clear cb;refine ag ?_;refine⟨a7,?_,rg.out,mb.out,i9.out⟩;simp only[yQ,yU,yX,yY]
 rintro a' a8 ⟨F,rfl,j0,ey,ro⟩;have a9:Hid (ae a8 F (iA n c C y) 71):=j0;have ez:=Lib.hid ey;have cx:Hid (Below a.heap.size a a8):=aa bd.out ey;clear j0 ey ro;simp only[yQ,yU,yX,yY];obtain⟨ac,em⟩:∃ac,ac=X.length:=⟨_,rfl⟩;rw[<-em]at gz s1;have en:=Lib.hid em;clear em;have t2:n4=K.length:=ed.out.hn;obtain⟨q,hq⟩:∃q,q=ac-K.length:=⟨_,rfl⟩;have ul:IntKind.i64.wrap ((ac:Int)-(n4:Int))=(q:Int):=by rw[aE _ oO oO];omega
 have v1:(ac:Int)-(n4:Int)=(q:Int):=oO;have kc:q<=ac:=oO;have v2:IntKind.i64.wrap (q:Int)=(q:Int):=aE _ oO oO;have nl:Hid (X.length-K.length=q):=by show _=_;rw[<-en.out,hq]
 clear hq t2 gz;have ga:a8.cell? ⟨F,0,none⟩=some (.int .i64 n):=a9.out.cell 0 _ rfl;have gb:a8.cell? ⟨F,1,none⟩=some (.bool c):=a9.out.cell 1 _ rfl;have gc:a8.cell? ⟨F,2,none⟩=some (.int .i64 C):=a9.out.cell 2 _ rfl;have gd:a8.cell? ⟨F,3,none⟩=some (.int .i64 y):=a9.out.cell 3 _ rfl
 go_wp2_with(first
  |(go_at_call 83;refine(om.out _).mono ?_;rintro e am ⟨db,N,ge,rfl,kd,md,e0⟩;have eq:=Lib.hid ge;have rs:=Lib.hid kd;have me:=Lib.hid md;have di:=Lib.hid e0;have cy:Hid (Below a.heap.size a am):=aa cx.out e0;clear ge kd md e0 ga gb gc gd;have ks:Hid (Below a.heap.size a (am.alloc (.cells (o9 n n db N).toArray 28))):=ah cy.out _;obtain⟨T,U⟩:=s.out _ ks.out)
  |(go_at_call 46;refine(oo.out _).mono ?_;rintro e o ⟨v3,rfl,ds,ap⟩;obtain⟨⟨rt,rx,rfl,tb,-,-⟩,-⟩:=id ds;rw[<-en.out]at ds tb;have td:=Lib.hid ds;have av:=Lib.hid ap;clear ds ap T U))
 rw[<-en.out];have b6:Hid (Below a.heap.size a o):=aa ks.out av.out;obtain⟨V,er⟩:∃V,V=am.heap.size:=⟨_,rfl⟩;simp only[<-er];have r0:Hid (ae o V (o9 n n db N).toArray 28):=by show ae _ _ _ _;exact(ae.new am _ _ _ er).below av.out
 have G:Hid (B≠db/\j≠db/\F≠db/\V≠db/\B<o.heap.size/\j<o.heap.size/\F<o.heap.size/\V<o.heap.size/\db<o.heap.size/\w.heap.size<=db/\i.heap.size<=db/\db<am.heap.size+1/\w.heap.size<=o.heap.size):=by
  show _/\_;have un:=d9.out;have up:=ar a9.out;have us:=rs.out;have ut:=ez.out.size;have vd:=bd.out.size;have vp:=di.out.size;have no:=av.out.size;have vq:=ar me.out;simp at no;omega
 have tl:Hid (bu o db ab):=(me.out.below (ax _ _)).below av.out;have tp:Hid (ae o F (iA n c C y) 71):=((a9.out.below di.out).below (ax _ _)).below av.out;have t3:Hid (SR vB false o d3 n4 ce K):=(((ed.out.below ez.out).below di.out).below (ax _ _)).below av.out;have t4:Hid (SR vB false o d4 f9 cg gD):=(((ix.out.below ez.out).below di.out).below (ax _ _)).below av.out;have r1:Hid (∀E,d3=some E->E.block≠db):=by
  show∀E,_;intro E e;obtain⟨r2,J,ch,-⟩:=ed.out.rd sy.out;rw[e]at J;injection J with J;rw[J];have:=G.out.2.2.2.2.2.2.2.2.2.2.1;omega
 have kv:Hid (∀E,d4=some E->E.block≠db):=by
  show∀E,_;intro E e;obtain⟨r2,J,ch,-⟩:=ix.out.rd sv.out;rw[e]at J;injection J with J;rw[J];have:=G.out.2.2.2.2.2.2.2.2.2.2.1;omega
 have tq:Hid (db<(am.alloc (.cells (o9 n n db N).toArray 28)).heap.size):=by show _<_;have:=G.out.2.2.2.2.2.2.2.2.2.2.2.1;simp;omega
 clear er;have es:Hid (∀W,aF db o W->(W.cell? ⟨B,0,none⟩=some (.int .i64 (L:Int))/\W.cell? ⟨B,1,none⟩=some (.bool c))/\(W.cell? ⟨F,0,none⟩=some (.int .i64 (n:Int))/\W.cell? ⟨F,1,none⟩=some (.bool c)/\W.cell? ⟨F,2,none⟩=some (.int .i64 (C:Int))/\W.cell? ⟨F,3,none⟩=some (.int .i64 (y:Int)))/\W.cell? ⟨V,0,none⟩=some (.int .i64 (n:Int))/\W.cell? ⟨V,1,none⟩=some (.int .i64 (n:Int))/\W.cell? ⟨V,2,none⟩=some (.slice (some ⟨db,0,none⟩) N N)):=by
  show∀W,_;intro W Q;have ch:=Q.row (d8.out.below b6.out) G.out.1;have x:=Q.row tp.out G.out.2.2.1;have bs:=Q.row r0.out G.out.2.2.2.1;exact⟨⟨ch.cell 0 _ rfl,ch.cell 1 _ rfl⟩,⟨x.cell 0 _ rfl,x.cell 1 _ rfl,x.cell 2 _ rfl,x.cell 3 _ rfl⟩,bs.cell 0 _ rfl,bs.cell 1 _ rfl,bs.cell 2 _ rfl⟩
 obtain⟨kw,k0,k1,bt⟩:∃fo fr M,sliced rt q ac rx 2= .slice fo fr M:=⟨_,_,_,rfl⟩;have mk:Hid (fN (am.alloc (.cells (o9 n n db N).toArray 28)).heap.size o (.slice kw k0 k1) (X.drop q)):=by
  show fN _ _ _ _;rw[<-bt];exact fN.from td.out q kc
 rw[nl.out]at lc gt gy;have e9:Hid (aF db o o.drew):=aF.below (ai (Below.refl _ _));have k2:N<=100000000:=by have:=eq.out;have:n* n<=161* 161:=Nat.mul_le_mul gC gC;omega
 have k3:Hid (N=ab.length):=by show _=_;rw[gv.out];exact eq.out
 refine yO (λW=>aF db o W) [1,2,3,4,5,6,7,9,0,8,10] e9.out ?_
 repeat refine zO es.out ?_
 refine' zQ rfl (CL rfl rfl q rfl kc bt) e9.out ?_;refine zZ ?_;refine(xU n n db N n4 ce ab (X.drop q) K (.slice kw k0 k1) d3 o.drew oO oO k3.out k2 (tl.out.below (ai (Below.refl _ _))) (mk.out.1.below (ai (Below.refl _ _))) (λA m k E e1 e2=>by have x:=mk.out.2 A m k E e1 e2;have bs:=tq.out;omega) (t3.out.below (ai (Below.refl _ _))) r1.out gy.out lc.out).mono ?_;rintro e et ⟨rfl,ml,mm⟩;have tr:=Lib.hid ml;have mp:Hid (aF db o et):=e9.out.trans mm;clear ml mm;refine⟨_,rfl,mp.out,jO ?_⟩;refine ag ?_;go_wp2;have fb:Hid (aF db o et.drew):=mp.out.trans (aF.below (ai (Below.refl _ _)));have ts:Hid (N=(wrL n ab (X.drop q) K).length):=by show _=_;rw[gx.out];exact k3.out
 have r3:Hid (∀p∈ex,jP n p<(wrL n ab (X.drop q) K).length):=st.out _ (by rw[gx.out,gv.out]);refine yO (λW=>aF db o W) [1,2,4,0,3,5] fb.out ?_
 repeat refine zO es.out ?_
 refine zZ ?_;refine(op.out _).mono ?_;rintro e ew ⟨v5,rfl,fc,fd⟩;obtain⟨⟨sb,sd,rfl,-,-⟩,-⟩:=id fc;have mq:=Lib.hid fc;have fn:Hid (aF db o ew):=fb.out.trans (aF.below fd);have tx:Hid (bu ew db (wrL n ab (X.drop q) K)):=(tr.out.below (ai (Below.refl _ _))).below fd;have ty:Hid (db<et.drew.heap.size):=Nat.lt_of_lt_of_le G.out.2.2.2.2.2.2.2.2.1 fb.out.sz;clear fc fd;refine⟨_,rfl,fn.out,jO ?_⟩;refine zZ ?_;refine(xU n n db N f9 cg (wrL n ab (X.drop q) K) ex gD (.slice sb ex.length sd) d4 ew oO oO ts.out k2 tx.out mq.out.1 (λA m k E e1 e2=>by have x:=mq.out.2 A m k E e1 e2;have bs:=ty.out;omega) (t4.out.Mj fn.out kv.out) kv.out ov.out r3.out).mono ?_;rintro e t ⟨rfl,ms,mt⟩;have t0:Hid (bu t db dl):=by show bu _ _ _;rw[<-gt.out];exact ms
 have dv:Hid (aF db o t):=fn.out.trans mt;clear ms mt;refine⟨_,rfl,dv.out,jO ?_⟩;refine ag ?_;obtain⟨⟨T,U⟩,⟨ga,gb,gc,gd⟩,vr,vs,vv⟩:=es.out t dv.out;have H:Hid (ae t j bk 30):=dv.out.row (o3.out.below b6.out) G.out.2.1;have c0:t.cell? ⟨j,0,none⟩=some (.int .i64 0):=H.out.cell 0 _ rfl;have c1:t.cell? ⟨j,1,none⟩=some (.bool false):=H.out.cell 1 _ rfl;have f8:t.cell? ⟨j,2,none⟩=some (.int .i64 0):=H.out.cell 2 _ rfl;have np:t.cell? ⟨j,3,none⟩=some (.int .i64 0):=H.out.cell 3 _ rfl;have ce:t.cell? ⟨j,4,none⟩=some (.int .i64 0):=H.out.cell 4 _ rfl;have cg:t.cell? ⟨j,5,none⟩=some (.slice none 0 0):=H.out.cell 5 _ rfl;have nx:t.frozen? ⟨j,0,none⟩=false:=frozen_of_row _ _ _ _ _ H.out;have nz:t.frozen? ⟨j,1,none⟩=false:=frozen_of_row _ _ _ _ _ H.out;have n0:t.frozen? ⟨j,2,none⟩=false:=frozen_of_row _ _ _ _ _ H.out;have n5:t.frozen? ⟨j,3,none⟩=false:=frozen_of_row _ _ _ _ _ H.out;have n6:t.frozen? ⟨j,4,none⟩=false:=frozen_of_row _ _ _ _ _ H.out;have n7:t.frozen? ⟨j,5,none⟩=false:=frozen_of_row _ _ _ _ _ H.out;have sm:Hid (Below w.heap.size w t):=(gN.out.trans (b6.out.mono d9.out.2.2.2)).trans (dv.out.to G.out.2.2.2.2.2.2.2.2.2.1 G.out.2.2.2.2.2.2.2.2.2.2.2.2);have be:w.heap.size<=j:=d9.out.1;go_wp2;refine bodyPost_ret (v:= .tuple #[oV L c m n db N,.int .i64 0]) (by simp[results,Tryz.results35,go_sem,c0,c1,f8,np,ce,cg,nx,nz,n0,n5,n6,n7]) rfl ⟨db,N,eq.out,rfl,?_,G.out.2.2.2.2.2.2.2.2.2.1,?_⟩
 ·have bb:db≠j:=(G.out.2.1).symm;exact ae.cj (ae.cj (ae.cj (ae.cj (ae.cj (ae.cj t0.out _ _ bb) _ _ bb) _ _ bb) _ _ bb) _ _ bb) _ _ bb
 ·exact(((((sm.out.setCell be _).setCell be _).setCell be _).setCell be _).setCell be _).setCell be _
def EA (w:World) (v:Value) (t:List Bool) (b:Option (Nat×Bool)):Prop:=match b with
 |none=>v= .agg bk
 |some p=>∃A N a,N=aD p.1 p.2* aD p.1 p.2/\v= .agg #[.int .i64 (p.1:Int),.bool p.2,.int .i64 ((aU t (aB p.1)).length:Int),.int .i64 ((aD p.1 p.2:Nat):Int),.int .i64 ((aD p.1 p.2:Nat):Int),.slice A N a]/\SR vB false w A N a (kB p.1 p.2 (aU t (aB p.1)))
def nf (w:World) (l:List UInt8) (r:Option (Nat×Bool)×Int) (e:Ending) (w':World):Prop:=∃v,e= .returned (.tuple #[v,.int .i64 r.2])/\EA w' v (cZ l) r.1/\Below w.heap.size w w'
def D3 (p:Nat×Bool):Prop:=1<=p.1/\p.1<=32/\(p.2=true->p.1<=4)
theorem K6 (c:Bool):∀p∈qn c,D3 p:=by
 intro p a;unfold qn at a;rw[List.mem_append]at a;rcases a with a|a
 ·obtain⟨i,b,rfl⟩:=List.mem_map.1 a;rw[List.mem_range]at b;exact⟨by show 1<=i+1;omega,by show i+1<=32;omega,λ_=>by show i+1<=4;omega⟩
 ·cases c with
  |true=>rw[if_pos rfl]at a;cases a
  |false=>
   rw[if_neg oD]at a;obtain⟨i,b,rfl⟩:=List.mem_map.1 a;rw[List.mem_range]at b;exact⟨by show 1<=i+4;omega,by show i+4<=32;omega,λh=>by cases h⟩
theorem Ju (c:Bool):(qn c).length<=33:=by cases c<;>decide
theorem tD {t:List Bool} (h:t.length<=1048576) (L:Nat):gP t ((aB L:Nat):Int)=(aU t (aB L),0):=by
 have a:=iE L;unfold gP;rw[if_neg oO,if_neg oO];rfl
theorem yr {α:Type} (f:α->Bool) (l:List α) (d:α) (j:Nat) (b:j<l.length) (h:(l.take j).find? f=none):(f (l.getD j d)=true->l.find? f=some (l.getD j d))/\(f (l.getD j d)=false->(l.take (j+1)).find? f=none):=by
 have e:l=l.take j++l.drop j:=(List.take_append_drop j l).symm;have e2:l.drop j=l.getD j d::l.drop (j+1):=by
  rw[List.drop_eq_getElem_cons b];simp[List.getD,b]
 constructor
 ·intro a;rw[e,List.find?_append,h,e2];have e3:(l.take j++l.getD j d::l.drop (j+1)).getD j d=l.getD j d:=by rw[<-e2,<-e]
  rw[e3,List.find?_cons,a];rfl
 ·intro a;rw[List.take_add_one,List.find?_append,h];simp only[List.getD]at a;rw[List.getElem?_eq_getElem b]at a⊢;simp only[Option.getD_some]at a;simp[a]
theorem GL (A:Option Addr) (n i:Nat) (l:List UInt8) (b:Int) (c:Bool) (d:Int) (w:World) (m:4096<n) (x:n<=9223372036854775807):
 Calls Tryz.prog 12 #[.slice A n i,.agg #[.int .i64 b,.bool c,.int .i64 d]] w (nf w l (none,4)):=by
 obtain⟨a,e⟩:∃a,a=(w.alloc (.cells #[.int .i64 b,.bool c,.int .i64 d] 24)).alloc (.cells bk 30):=⟨_,rfl⟩;have p:=Lib.hid e;have q:Hid (Below w.heap.size w a):=by show Below _ _ _;rw[e];exact ah (ax _ _) _
 have g:Hid (ae a w.heap.size #[.int .i64 b,.bool c,.int .i64 d] 24):=by
  show ae _ _ _ _;rw[e];have j:ae (w.alloc (.cells #[.int .i64 b,.bool c,.int .i64 d] 24)) w.heap.size #[.int .i64 b,.bool c,.int .i64 d] 24:=ae.new _ _ _ _ rfl;exact j.below (ax _ _)
 have k:Hid (ae a (w.heap.size+1) bk 30):=by show ae _ _ _ _;rw[e];exact ae.new _ _ _ _ oS
 have r:Hid (w.heap.size<=w.heap.size+1/\w.heap.size+1<a.heap.size/\w.heap.size<=a.heap.size/\a.heap.size=w.heap.size+2):=by show _/\_;rw[e];simp;omega
 have s:Hid (∀W,af a W->W.cell? ⟨w.heap.size,0,none⟩=some (.int .i64 b)/\W.cell? ⟨w.heap.size,1,none⟩=some (.bool c)/\W.cell? ⟨w.heap.size,2,none⟩=some (.int .i64 d)):=λW f=>⟨(g.out.below f).cell 0 _ rfl,(g.out.below f).cell 1 _ rfl,(g.out.below f).cell 2 _ rfl⟩;have t:Hid (∀W,af a W->ae W (w.heap.size+1) bk 30):=λW f=>k.out.below f;have u:Hid (∀W,Below ((((w.alloc (.cells #[.int .i64 b,.bool c,.int .i64 d] 24)).alloc (.cells bk 30)).alloc (bL b c))).heap.size ((((w.alloc (.cells #[.int .i64 b,.bool c,.int .i64 d] 24)).alloc (.cells bk 30)).alloc (bL b c))) W->Below a.heap.size a W):=by show∀W,_->_;rw[<-e];exactλW h=>cQ h
 clear e;have o:(4096:Int)<(n:Int):=oO;go_enter Tryz.func12,Tryz.ntmps12;go_wp2;refine bodyPost_ret (v:= .tuple #[.agg bk,.int .i64 4]) (by simp[results,Tryz.results12,go_sem]) rfl ⟨.agg bk,rfl,rfl,?_⟩;exact ah (ax _ _) _
theorem GO (A:Option Addr) (a:Nat) (l:List UInt8) (b:Int) (c:Bool) (d:Int) (w:World):
 Calls Tryz.prog 12 #[.slice A 0 a,.agg #[.int .i64 b,.bool c,.int .i64 d]] w (nf w l (none,5)):=by
 go_enter Tryz.func12,Tryz.ntmps12;go_wp2;refine bodyPost_ret (v:= .tuple #[.agg bk,.int .i64 5]) (by simp[results,Tryz.results12,go_sem]) rfl ⟨.agg bk,rfl,rfl,?_⟩;exact ah (ax _ _) _
theorem Ez (A:Option Addr) (n x:Nat) (l:List UInt8) (c:Int) (f:Bool) (i:Int) (w:World) (Q:n<=4096) (S:1<=n) (T:¬c=0) (s:fM c f=false) (Y:n<=9223372036854775807):
 Calls Tryz.prog 12 #[.slice A n x,.agg #[.int .i64 c,.bool f,.int .i64 i]] w (nf w l (none,14)):=by
 obtain⟨b,j⟩:∃b,b=(w.alloc (.cells #[.int .i64 c,.bool f,.int .i64 i] 24)).alloc (.cells bk 30):=⟨_,rfl⟩;have L:=Lib.hid j;have M:Hid (Below w.heap.size w b):=by show Below _ _ _;rw[j];exact ah (ax _ _) _
 have r:Hid (ae b w.heap.size #[.int .i64 c,.bool f,.int .i64 i] 24):=by
  show ae _ _ _ _;rw[j];have y:ae (w.alloc (.cells #[.int .i64 c,.bool f,.int .i64 i] 24)) w.heap.size #[.int .i64 c,.bool f,.int .i64 i] 24:=ae.new _ _ _ _ rfl;exact y.below (ax _ _)
 have N:Hid (ae b (w.heap.size+1) bk 30):=by show ae _ _ _ _;rw[j];exact ae.new _ _ _ _ oS
 have k:Hid (w.heap.size<=w.heap.size+1/\w.heap.size+1<b.heap.size/\w.heap.size<=b.heap.size/\b.heap.size=w.heap.size+2):=by show _/\_;rw[j];simp;omega
 have t:Hid (∀W,af b W->W.cell? ⟨w.heap.size,0,none⟩=some (.int .i64 c)/\W.cell? ⟨w.heap.size,1,none⟩=some (.bool f)/\W.cell? ⟨w.heap.size,2,none⟩=some (.int .i64 i)):=λW m=>⟨(r.out.below m).cell 0 _ rfl,(r.out.below m).cell 1 _ rfl,(r.out.below m).cell 2 _ rfl⟩;have g:Hid (∀W,af b W->ae W (w.heap.size+1) bk 30):=λW m=>N.out.below m;have O:Hid (∀W,Below ((((w.alloc (.cells #[.int .i64 c,.bool f,.int .i64 i] 24)).alloc (.cells bk 30)).alloc (bL c f))).heap.size ((((w.alloc (.cells #[.int .i64 c,.bool f,.int .i64 i] 24)).alloc (.cells bk 30)).alloc (bL c f))) W->Below b.heap.size b W):=by show∀W,_->_;rw[<-j];exactλW h=>cQ h
 clear j;obtain⟨o,p,q⟩:=t.out b (Below.refl _ _);rw[L.out]at o p q;have U:¬(4096:Int)<(n:Int):=oO;have V:((n:Int)==0)=false:=by rw[beq_eq_false_iff_ne];omega
 have X:¬n=0:=oO;have P:Hid (∀W,Calls Tryz.prog 29 #[cn c f] W λe w'=>e= .returned (.bool false)/\Below W.heap.size W w'):=λW=>by rw[<-s];exact fO c f W
 clear s;go_enter Tryz.func12,Tryz.ntmps12;go_wp2_with(go_at_call 29;refine(P.out _).mono ?_;rintro e a ⟨rfl,u⟩;have d:Hid (Below b.heap.size b a):=O.out _ u;clear u o p q;obtain⟨o,p,q⟩:=t.out a d.out;have c0:(a).cell? ⟨w.heap.size+1,0,none⟩=some (.int .i64 0):=(g.out a d.out).cell 0 _ rfl;have c1:(a).cell? ⟨w.heap.size+1,1,none⟩=some (.bool false):=(g.out a d.out).cell 1 _ rfl;have z:(a).cell? ⟨w.heap.size+1,2,none⟩=some (.int .i64 0):=(g.out a d.out).cell 2 _ rfl;have B:(a).cell? ⟨w.heap.size+1,3,none⟩=some (.int .i64 0):=(g.out a d.out).cell 3 _ rfl;have C:(a).cell? ⟨w.heap.size+1,4,none⟩=some (.int .i64 0):=(g.out a d.out).cell 4 _ rfl;have D:(a).cell? ⟨w.heap.size+1,5,none⟩=some (.slice none 0 0):=(g.out a d.out).cell 5 _ rfl;have E:(a).frozen? ⟨w.heap.size+1,0,none⟩=false:=frozen_of_row _ _ _ _ _ ((g.out a d.out));have F:(a).frozen? ⟨w.heap.size+1,1,none⟩=false:=frozen_of_row _ _ _ _ _ ((g.out a d.out));have G:(a).frozen? ⟨w.heap.size+1,2,none⟩=false:=frozen_of_row _ _ _ _ _ ((g.out a d.out));have H:(a).frozen? ⟨w.heap.size+1,3,none⟩=false:=frozen_of_row _ _ _ _ _ ((g.out a d.out));have J:(a).frozen? ⟨w.heap.size+1,4,none⟩=false:=frozen_of_row _ _ _ _ _ ((g.out a d.out));have K:(a).frozen? ⟨w.heap.size+1,5,none⟩=false:=frozen_of_row _ _ _ _ _ ((g.out a d.out)))
 refine bodyPost_ret (v:= .tuple #[.agg bk,.int .i64 14]) (by simp[results,Tryz.results12,go_sem,c0,c1,z,B,C,D,E,F,G,H,J,K]) rfl ⟨.agg bk,rfl,rfl,?_⟩;exact((((((M.out.trans (d.out.mono k.out.2.2.1)).setCell k.out.1 _).setCell k.out.1 _).setCell k.out.1 _).setCell k.out.1 _).setCell k.out.1 _).setCell k.out.1 _
theorem DV (A:Option Addr) (n x:Nat) (l:List UInt8) (c:Int) (f:Bool) (i:Int) (w:World) (Q:n<=4096) (S:1<=n) (T:¬c=0) (s:fM c f=true) (U:i<5) (Z:n<=9223372036854775807):
 Calls Tryz.prog 12 #[.slice A n x,.agg #[.int .i64 c,.bool f,.int .i64 i]] w (nf w l (none,3)):=by
 obtain⟨b,j⟩:∃b,b=(w.alloc (.cells #[.int .i64 c,.bool f,.int .i64 i] 24)).alloc (.cells bk 30):=⟨_,rfl⟩;have L:=Lib.hid j;have M:Hid (Below w.heap.size w b):=by show Below _ _ _;rw[j];exact ah (ax _ _) _
 have r:Hid (ae b w.heap.size #[.int .i64 c,.bool f,.int .i64 i] 24):=by
  show ae _ _ _ _;rw[j];have y:ae (w.alloc (.cells #[.int .i64 c,.bool f,.int .i64 i] 24)) w.heap.size #[.int .i64 c,.bool f,.int .i64 i] 24:=ae.new _ _ _ _ rfl;exact y.below (ax _ _)
 have N:Hid (ae b (w.heap.size+1) bk 30):=by show ae _ _ _ _;rw[j];exact ae.new _ _ _ _ oS
 have k:Hid (w.heap.size<=w.heap.size+1/\w.heap.size+1<b.heap.size/\w.heap.size<=b.heap.size/\b.heap.size=w.heap.size+2):=by show _/\_;rw[j];simp;omega
 have t:Hid (∀W,af b W->W.cell? ⟨w.heap.size,0,none⟩=some (.int .i64 c)/\W.cell? ⟨w.heap.size,1,none⟩=some (.bool f)/\W.cell? ⟨w.heap.size,2,none⟩=some (.int .i64 i)):=λW m=>⟨(r.out.below m).cell 0 _ rfl,(r.out.below m).cell 1 _ rfl,(r.out.below m).cell 2 _ rfl⟩;have g:Hid (∀W,af b W->ae W (w.heap.size+1) bk 30):=λW m=>N.out.below m;have O:Hid (∀W,Below ((((w.alloc (.cells #[.int .i64 c,.bool f,.int .i64 i] 24)).alloc (.cells bk 30)).alloc (bL c f))).heap.size ((((w.alloc (.cells #[.int .i64 c,.bool f,.int .i64 i] 24)).alloc (.cells bk 30)).alloc (bL c f))) W->Below b.heap.size b W):=by show∀W,_->_;rw[<-j];exactλW h=>cQ h
 clear j;obtain⟨o,p,q⟩:=t.out b (Below.refl _ _);rw[L.out]at o p q;have V:¬(4096:Int)<(n:Int):=oO;have X:((n:Int)==0)=false:=by rw[beq_eq_false_iff_ne];omega
 have Y:¬n=0:=oO;have P:Hid (∀W,Calls Tryz.prog 29 #[cn c f] W λe w'=>e= .returned (.bool true)/\Below W.heap.size W w'):=λW=>by rw[<-s];exact fO c f W
 clear s;go_enter Tryz.func12,Tryz.ntmps12;go_wp2_with(go_at_call 29;refine(P.out _).mono ?_;rintro e a ⟨rfl,u⟩;have d:Hid (Below b.heap.size b a):=O.out _ u;clear u o p q;obtain⟨o,p,q⟩:=t.out a d.out;have c0:(a).cell? ⟨w.heap.size+1,0,none⟩=some (.int .i64 0):=(g.out a d.out).cell 0 _ rfl;have c1:(a).cell? ⟨w.heap.size+1,1,none⟩=some (.bool false):=(g.out a d.out).cell 1 _ rfl;have z:(a).cell? ⟨w.heap.size+1,2,none⟩=some (.int .i64 0):=(g.out a d.out).cell 2 _ rfl;have B:(a).cell? ⟨w.heap.size+1,3,none⟩=some (.int .i64 0):=(g.out a d.out).cell 3 _ rfl;have C:(a).cell? ⟨w.heap.size+1,4,none⟩=some (.int .i64 0):=(g.out a d.out).cell 4 _ rfl;have D:(a).cell? ⟨w.heap.size+1,5,none⟩=some (.slice none 0 0):=(g.out a d.out).cell 5 _ rfl;have E:(a).frozen? ⟨w.heap.size+1,0,none⟩=false:=frozen_of_row _ _ _ _ _ ((g.out a d.out));have F:(a).frozen? ⟨w.heap.size+1,1,none⟩=false:=frozen_of_row _ _ _ _ _ ((g.out a d.out));have G:(a).frozen? ⟨w.heap.size+1,2,none⟩=false:=frozen_of_row _ _ _ _ _ ((g.out a d.out));have H:(a).frozen? ⟨w.heap.size+1,3,none⟩=false:=frozen_of_row _ _ _ _ _ ((g.out a d.out));have J:(a).frozen? ⟨w.heap.size+1,4,none⟩=false:=frozen_of_row _ _ _ _ _ ((g.out a d.out));have K:(a).frozen? ⟨w.heap.size+1,5,none⟩=false:=frozen_of_row _ _ _ _ _ ((g.out a d.out)))
 refine bodyPost_ret (v:= .tuple #[.agg bk,.int .i64 3]) (by simp[results,Tryz.results12,go_sem,c0,c1,z,B,C,D,E,F,G,H,J,K]) rfl ⟨.agg bk,rfl,rfl,?_⟩;exact((((((M.out.trans (d.out.mono k.out.2.2.1)).setCell k.out.1 _).setCell k.out.1 _).setCell k.out.1 _).setCell k.out.1 _).setCell k.out.1 _).setCell k.out.1 _
theorem EO (A:Option Addr) (n x:Nat) (l:List UInt8) (c:Int) (f:Bool) (i:Int) (w:World) (Q:n<=4096) (S:1<=n) (T:¬c=0) (s:fM c f=true) (U:¬i<5) (V:90<i) (ab:n<=9223372036854775807):
 Calls Tryz.prog 12 #[.slice A n x,.agg #[.int .i64 c,.bool f,.int .i64 i]] w (nf w l (none,3)):=by
 obtain⟨b,j⟩:∃b,b=(w.alloc (.cells #[.int .i64 c,.bool f,.int .i64 i] 24)).alloc (.cells bk 30):=⟨_,rfl⟩;have L:=Lib.hid j;have M:Hid (Below w.heap.size w b):=by show Below _ _ _;rw[j];exact ah (ax _ _) _
 have r:Hid (ae b w.heap.size #[.int .i64 c,.bool f,.int .i64 i] 24):=by
  show ae _ _ _ _;rw[j];have y:ae (w.alloc (.cells #[.int .i64 c,.bool f,.int .i64 i] 24)) w.heap.size #[.int .i64 c,.bool f,.int .i64 i] 24:=ae.new _ _ _ _ rfl;exact y.below (ax _ _)
 have N:Hid (ae b (w.heap.size+1) bk 30):=by show ae _ _ _ _;rw[j];exact ae.new _ _ _ _ oS
 have k:Hid (w.heap.size<=w.heap.size+1/\w.heap.size+1<b.heap.size/\w.heap.size<=b.heap.size/\b.heap.size=w.heap.size+2):=by show _/\_;rw[j];simp;omega
 have t:Hid (∀W,af b W->W.cell? ⟨w.heap.size,0,none⟩=some (.int .i64 c)/\W.cell? ⟨w.heap.size,1,none⟩=some (.bool f)/\W.cell? ⟨w.heap.size,2,none⟩=some (.int .i64 i)):=λW m=>⟨(r.out.below m).cell 0 _ rfl,(r.out.below m).cell 1 _ rfl,(r.out.below m).cell 2 _ rfl⟩;have g:Hid (∀W,af b W->ae W (w.heap.size+1) bk 30):=λW m=>N.out.below m;have O:Hid (∀W,Below ((((w.alloc (.cells #[.int .i64 c,.bool f,.int .i64 i] 24)).alloc (.cells bk 30)).alloc (bL c f))).heap.size ((((w.alloc (.cells #[.int .i64 c,.bool f,.int .i64 i] 24)).alloc (.cells bk 30)).alloc (bL c f))) W->Below b.heap.size b W):=by show∀W,_->_;rw[<-j];exactλW h=>cQ h
 clear j;obtain⟨o,p,q⟩:=t.out b (Below.refl _ _);rw[L.out]at o p q;have X:¬(4096:Int)<(n:Int):=oO;have Y:((n:Int)==0)=false:=by rw[beq_eq_false_iff_ne];omega
 have Z:¬n=0:=oO;have P:Hid (∀W,Calls Tryz.prog 29 #[cn c f] W λe w'=>e= .returned (.bool true)/\Below W.heap.size W w'):=λW=>by rw[<-s];exact fO c f W
 clear s;go_enter Tryz.func12,Tryz.ntmps12;go_wp2_with(go_at_call 29;refine(P.out _).mono ?_;rintro e a ⟨rfl,u⟩;have d:Hid (Below b.heap.size b a):=O.out _ u;clear u o p q;obtain⟨o,p,q⟩:=t.out a d.out;have c0:(a).cell? ⟨w.heap.size+1,0,none⟩=some (.int .i64 0):=(g.out a d.out).cell 0 _ rfl;have c1:(a).cell? ⟨w.heap.size+1,1,none⟩=some (.bool false):=(g.out a d.out).cell 1 _ rfl;have z:(a).cell? ⟨w.heap.size+1,2,none⟩=some (.int .i64 0):=(g.out a d.out).cell 2 _ rfl;have B:(a).cell? ⟨w.heap.size+1,3,none⟩=some (.int .i64 0):=(g.out a d.out).cell 3 _ rfl;have C:(a).cell? ⟨w.heap.size+1,4,none⟩=some (.int .i64 0):=(g.out a d.out).cell 4 _ rfl;have D:(a).cell? ⟨w.heap.size+1,5,none⟩=some (.slice none 0 0):=(g.out a d.out).cell 5 _ rfl;have E:(a).frozen? ⟨w.heap.size+1,0,none⟩=false:=frozen_of_row _ _ _ _ _ ((g.out a d.out));have F:(a).frozen? ⟨w.heap.size+1,1,none⟩=false:=frozen_of_row _ _ _ _ _ ((g.out a d.out));have G:(a).frozen? ⟨w.heap.size+1,2,none⟩=false:=frozen_of_row _ _ _ _ _ ((g.out a d.out));have H:(a).frozen? ⟨w.heap.size+1,3,none⟩=false:=frozen_of_row _ _ _ _ _ ((g.out a d.out));have J:(a).frozen? ⟨w.heap.size+1,4,none⟩=false:=frozen_of_row _ _ _ _ _ ((g.out a d.out));have K:(a).frozen? ⟨w.heap.size+1,5,none⟩=false:=frozen_of_row _ _ _ _ _ ((g.out a d.out)))
 refine bodyPost_ret (v:= .tuple #[.agg bk,.int .i64 3]) (by simp[results,Tryz.results12,go_sem,c0,c1,z,B,C,D,E,F,G,H,J,K]) rfl ⟨.agg bk,rfl,rfl,?_⟩;exact((((((M.out.trans (d.out.mono k.out.2.2.1)).setCell k.out.1 _).setCell k.out.1 _).setCell k.out.1 _).setCell k.out.1 _).setCell k.out.1 _).setCell k.out.1 _
theorem Ea (A:Option Addr) (n g:Nat) (l:List UInt8) (b:Bool) (c:Int) (w:World) (r:n<=4096) (s:1<=n) (t:c<5) (E:n<=9223372036854775807):
 Calls Tryz.prog 12 #[.slice A n g,.agg #[.int .i64 0,.bool b,.int .i64 c]] w (nf w l (none,3)):=by
 obtain⟨a,d⟩:∃a,a=(w.alloc (.cells #[.int .i64 0,.bool b,.int .i64 c] 24)).alloc (.cells bk 30):=⟨_,rfl⟩;have o:=Lib.hid d;have z:Hid (Below w.heap.size w a):=by show Below _ _ _;rw[d];exact ah (ax _ _) _
 have f:Hid (ae a w.heap.size #[.int .i64 0,.bool b,.int .i64 c] 24):=by
  show ae _ _ _ _;rw[d];have i:ae (w.alloc (.cells #[.int .i64 0,.bool b,.int .i64 c] 24)) w.heap.size #[.int .i64 0,.bool b,.int .i64 c] 24:=ae.new _ _ _ _ rfl;exact i.below (ax _ _)
 have p:Hid (ae a (w.heap.size+1) bk 30):=by show ae _ _ _ _;rw[d];exact ae.new _ _ _ _ oS
 have B:Hid (w.heap.size<=w.heap.size+1/\w.heap.size+1<a.heap.size/\w.heap.size<=a.heap.size/\a.heap.size=w.heap.size+2):=by show _/\_;rw[d];simp;omega
 have q:Hid (∀W,af a W->W.cell? ⟨w.heap.size,0,none⟩=some (.int .i64 0)/\W.cell? ⟨w.heap.size,1,none⟩=some (.bool b)/\W.cell? ⟨w.heap.size,2,none⟩=some (.int .i64 c)):=λW e=>⟨(f.out.below e).cell 0 _ rfl,(f.out.below e).cell 1 _ rfl,(f.out.below e).cell 2 _ rfl⟩;have C:Hid (∀W,af a W->ae W (w.heap.size+1) bk 30):=λW e=>p.out.below e;have D:Hid (∀W,Below ((((w.alloc (.cells #[.int .i64 0,.bool b,.int .i64 c] 24)).alloc (.cells bk 30)).alloc (bL 0 b))).heap.size ((((w.alloc (.cells #[.int .i64 0,.bool b,.int .i64 c] 24)).alloc (.cells bk 30)).alloc (bL 0 b))) W->Below a.heap.size a W):=by show∀W,_->_;rw[<-d];exactλW h=>cQ h
 clear d;obtain⟨j,k,m⟩:=q.out a (Below.refl _ _);rw[o.out]at j k m;have u:¬(4096:Int)<(n:Int):=oO;have x:((n:Int)==0)=false:=by rw[beq_eq_false_iff_ne];omega
 have y:¬n=0:=oO;go_enter Tryz.func12,Tryz.ntmps12;go_wp2;refine bodyPost_ret (v:= .tuple #[.agg bk,.int .i64 3]) (by simp[results,Tryz.results12,go_sem]) rfl ⟨.agg bk,rfl,rfl,?_⟩;exact ah (ah (ax _ _) _) _
theorem EW (A:Option Addr) (n g:Nat) (l:List UInt8) (b:Bool) (c:Int) (w:World) (r:n<=4096) (s:1<=n) (t:¬c<5) (u:90<c) (F:n<=9223372036854775807):
 Calls Tryz.prog 12 #[.slice A n g,.agg #[.int .i64 0,.bool b,.int .i64 c]] w (nf w l (none,3)):=by
 obtain⟨a,d⟩:∃a,a=(w.alloc (.cells #[.int .i64 0,.bool b,.int .i64 c] 24)).alloc (.cells bk 30):=⟨_,rfl⟩;have o:=Lib.hid d;have B:Hid (Below w.heap.size w a):=by show Below _ _ _;rw[d];exact ah (ax _ _) _
 have f:Hid (ae a w.heap.size #[.int .i64 0,.bool b,.int .i64 c] 24):=by
  show ae _ _ _ _;rw[d];have i:ae (w.alloc (.cells #[.int .i64 0,.bool b,.int .i64 c] 24)) w.heap.size #[.int .i64 0,.bool b,.int .i64 c] 24:=ae.new _ _ _ _ rfl;exact i.below (ax _ _)
 have p:Hid (ae a (w.heap.size+1) bk 30):=by show ae _ _ _ _;rw[d];exact ae.new _ _ _ _ oS
 have C:Hid (w.heap.size<=w.heap.size+1/\w.heap.size+1<a.heap.size/\w.heap.size<=a.heap.size/\a.heap.size=w.heap.size+2):=by show _/\_;rw[d];simp;omega
 have q:Hid (∀W,af a W->W.cell? ⟨w.heap.size,0,none⟩=some (.int .i64 0)/\W.cell? ⟨w.heap.size,1,none⟩=some (.bool b)/\W.cell? ⟨w.heap.size,2,none⟩=some (.int .i64 c)):=λW e=>⟨(f.out.below e).cell 0 _ rfl,(f.out.below e).cell 1 _ rfl,(f.out.below e).cell 2 _ rfl⟩;have D:Hid (∀W,af a W->ae W (w.heap.size+1) bk 30):=λW e=>p.out.below e;have E:Hid (∀W,Below ((((w.alloc (.cells #[.int .i64 0,.bool b,.int .i64 c] 24)).alloc (.cells bk 30)).alloc (bL 0 b))).heap.size ((((w.alloc (.cells #[.int .i64 0,.bool b,.int .i64 c] 24)).alloc (.cells bk 30)).alloc (bL 0 b))) W->Below a.heap.size a W):=by show∀W,_->_;rw[<-d];exactλW h=>cQ h
 clear d;obtain⟨j,k,m⟩:=q.out a (Below.refl _ _);rw[o.out]at j k m;have x:¬(4096:Int)<(n:Int):=oO;have y:((n:Int)==0)=false:=by rw[beq_eq_false_iff_ne];omega
 have z:¬n=0:=oO;go_enter Tryz.func12,Tryz.ntmps12;go_wp2;refine bodyPost_ret (v:= .tuple #[.agg bk,.int .i64 3]) (by simp[results,Tryz.results12,go_sem]) rfl ⟨.agg bk,rfl,rfl,?_⟩;exact ah (ah (ax _ _) _) _
end
end Go.Proofs.YtmnlkganmgcpbaaGreatDoor
