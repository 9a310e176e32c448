import Derived.Test.YtmnlkganmgcpbaaGreatDoorQe16
set_option maxRecDepth 100000
set_option maxHeartbeats 4000000
set_option linter.unusedVariables false
set_option linter.unusedSectionVars false
set_option linter.unusedSimpArgs false
namespace Go.Proofs.YtmnlkganmgcpbaaGreatDoor
section
open Go.RowKit
theorem aa.eC {w:World} {g:Nat} {u:Value} {a:TypeId} (h:aa w g #[u] a) (v:Value):aa (w.setCell ⟨g,0,none⟩ v) g #[v] a:=heap_setCell_same w g 0 #[u] a v h
theorem aa.bw {w:World} {g:Nat} {b:Array Value} {a:TypeId} (h:aa w g b a) (p:Addr) (v:Value) (c:g≠p.block):aa (w.setCell p v) g b a:=(Below.heap_setCell _ _ _ _ c).trans h
theorem vn (L:Nat) (w:World) (ca:L<=32):Calls Tryz.prog 92 #[cy L false] w λe w'=>∃hb i2,e= .returned (.func (Fn.func 138) #[] #[.pointer (some ⟨hb,0,none⟩),.pointer (some ⟨i2,0,none⟩)])/\HC L w' hb i2/\Below w.heap.size w w':=by
 have l:=ep w L false;have o:Hid (∀W,Calls Tryz.prog 36 #[cy L false] W λe w'=>e= .returned (.int .i64 ((ao L false:Nat):Int))/\Below W.heap.size W w'):=λW=>qg L false W ca;have j:Hid (∀W,Calls Tryz.prog 85 #[cy L false] W λe w'=>e= .returned (.int .i64 ((ax L false:Nat):Int))/\Below W.heap.size W w'):=λW=>qh L false W ca;have rx:=Lib.hid (fX (c:=false) ca);have r0:=Lib.hid (dF (c:=false) ca);unfold HC aP;generalize ax L false=B at*;generalize ao L false=S at*;obtain⟨wS,w3⟩:=rx.out;obtain⟨w4,w5⟩:=r0.out;obtain⟨g,jv⟩:∃g,g=B/2:=⟨_,rfl⟩;obtain⟨f,i3⟩:∃f,f=(S-1)/2:=⟨_,rfl⟩;rw[<-jv,<-i3];have e1:(B:Int)/2=(g:Int):=oO;obtain⟨cb,r1⟩:∃cb,cb=S-1:=⟨_,rfl⟩;have w6:IntKind.i64.wrap ((S:Int)-1)=(cb:Int):=by rw[aJ _ oO oO];omega
 have e4:(cb:Int)/2=(f:Int):=oO;have w7:IntKind.i64.wrap (f:Int)=(f:Int):=aJ _ oO oO;have w8:IntKind.i64.wrap (g:Int)=(g:Int):=aJ _ oO oO;have w9:g<=200:=oO;have xs:f<=200:=oO;clear jv i3 r1;obtain⟨a,ac⟩:∃a,a=w.alloc (bM L false):=⟨_,rfl⟩;have r:Hid (Below w.heap.size w a):=by show Below _ _ _;rw[ac];exact ar _ _
 rw[<-ac]at l;have V:Hid (af a a.drew):=ak (Below.refl _ _);obtain⟨i4,i5⟩:=l.out _ (Below.refl _ _);rw[ac]at i4 i5;go_enter Tryz.func92,Tryz.ntmps92;go_wp2;rw[<-ac];clear i4 i5 ac;refine so (S:=af a) (.br [(false,0),(false,4)] [1,7,8] (λk=>if k=1 then .br [(false,2),(false,3)] [5,7,8] (λk=>if k=5 then .br [(false,6)] [7,8] (λk=>if k=7 then .last [(true,8),(true,9),(true,10)]else .last [(true,7),(true,9),(true,10)])else if k=7 then .br [] [5,8] (λk=>if k=5 then .last [(false,6),(true,8),(true,9),(true,10)]else .last [(true,5),(false,6),(true,9),(true,10)])else .br [] [5,7] (λk=>if k=5 then .last [(false,6),(true,7),(true,9),(true,10)]else .last [(true,5),(false,6),(true,9),(true,10)]))else if k=7 then .br [] [1,8] (λk=>if k=1 then .br [(false,2),(false,3)] [5,8] (λk=>if k=5 then .last [(false,6),(true,8),(true,9),(true,10)]else .last [(true,5),(false,6),(true,9),(true,10)])else .last [(true,1),(false,2),(false,3),(true,5),(false,6),(true,9),(true,10)])else .br [] [1,7] (λk=>if k=1 then .br [(false,2),(false,3)] [5,7] (λk=>if k=5 then .last [(false,6),(true,7),(true,9),(true,10)]else .last [(true,5),(false,6),(true,9),(true,10)])else .last [(true,1),(false,2),(false,3),(true,5),(false,6),(true,9),(true,10)]))) oK oK V.out ?_;simp only[reduceIte,Nat.reduceEqDiff,wpTree,attachW,List.getElem?_cons_zero,List.getElem?_cons_succ]
 repeat refine zO l.out ?_
 refine ag ?_;intro k i;simp only[List.mem_cons,List.not_mem_nil,or_false]at i;rcases i with rfl|rfl|rfl
 ·simp only[reduceIte,Nat.reduceEqDiff,wpTree,attachW,List.getElem?_cons_zero,List.getElem?_cons_succ];refine zZ ?_;refine(o.out _).mono ?_;rintro e s ⟨rfl,hb⟩;have X:Hid (af a s):=ab V.out hb;clear hb;refine⟨_,rfl,X.out,jO ?_⟩;refine ag ?_
  (try simp only[reduceIte,Nat.reduceEqDiff,wpTree,attachW,List.getElem?_cons_zero,List.getElem?_cons_succ])
  repeat refine zO l.out ?_
  refine ag ?_;intro k i;simp only[List.mem_cons,List.not_mem_nil,or_false]at i;rcases i with rfl|rfl|rfl
  ·simp only[reduceIte,Nat.reduceEqDiff,wpTree,attachW,List.getElem?_cons_zero,List.getElem?_cons_succ];refine zZ ?_;refine(j.out _).mono ?_;rintro e t ⟨rfl,hb⟩;have ad:Hid (af a t):=ab X.out hb;clear hb;refine⟨_,rfl,ad.out,jO ?_⟩;refine ag ?_
   (try simp only[reduceIte,Nat.reduceEqDiff,wpTree,attachW,List.getElem?_cons_zero,List.getElem?_cons_succ])
   repeat refine zO l.out ?_
   refine ag ?_;intro k i;simp only[List.mem_cons,List.not_mem_nil,or_false]at i;rcases i with rfl|rfl
   ·simp only[reduceIte,Nat.reduceEqDiff,wpTree,attachW,List.getElem?_cons_zero,List.getElem?_cons_succ];obtain⟨u,ch⟩:∃d,d=t.alloc (.cells #[.int .i64 0] 3):=⟨_,rfl⟩;obtain⟨x,f4⟩:∃b,b=t.heap.size:=⟨_,rfl⟩;have r2:Hid (Below t.heap.size t u):=by show Below _ _ _;rw[ch];exact ar _ _
    have f5:Hid (af a u):=ab ad.out r2.out;have i6:Hid (aa u x #[.int .i64 0] 3/\a.heap.size<=x):=by show _/\_;rw[ch,f4];exact⟨aa.new _ _ _ _ oS,ad.out.size⟩
    have mm:=Lib.hid i6.out.1;have ta:=Lib.hid i6.out.2;refine' zQ (v:= .pointer (some ⟨x,0,none⟩)) (w':=u) rfl (by rw[f4,ch];go_simp) f5.out ?_;clear ch f4;refine ag ?_
    (try simp only[reduceIte,Nat.reduceEqDiff,wpTree,attachW,List.getElem?_cons_zero,List.getElem?_cons_succ])
    obtain⟨Y,ci⟩:∃d,d=u.alloc (.cells #[.int .i64 0] 3):=⟨_,rfl⟩;obtain⟨y,ck⟩:∃b,b=u.heap.size:=⟨_,rfl⟩;have j0:Hid (Below u.heap.size u Y):=by show Below _ _ _;rw[ci];exact ar _ _
    have kb:Hid (af a Y):=ab f5.out j0.out;have i7:Hid (aa Y y #[.int .i64 0] 3/\a.heap.size<=y):=by show _/\_;rw[ci,ck];exact⟨aa.new _ _ _ _ oS,f5.out.size⟩
    have i8:Hid (x≠y):=by show _≠_;rw[ck];exact Nat.ne_of_lt (aw mm.out)
    have gs:=Lib.hid (mm.out.below j0.out);have sm:=Lib.hid i7.out.1;have tb:=Lib.hid i7.out.2;refine' zQ (v:= .pointer (some ⟨y,0,none⟩)) (w':=Y) rfl (by rw[ck,ci];go_simp) kb.out ?_;clear ci ck;obtain⟨ce,al⟩:∃d,d=Y.setCell ⟨x,0,none⟩ (.int .i64 (f:Int)):=⟨_,rfl⟩;have kc:Hid (af a ce):=by show Below _ _ _;rw[al];exact kb.out.setCell (by exact ta.out) _
    have sn:Hid (aa ce x #[.int .i64 (f:Int)] 3):=by show aa _ _ _ _;rw[al];exact gs.out.eC _
    have dx:=Lib.hid (sm.out.bw ⟨x,0,none⟩ (.int .i64 (f:Int)) (i8.out.symm));rw[<-al]at dx;refine' bj (w':=ce) rfl (by rw[al];exact bI rfl ⟨x,0,none⟩ f rfl rfl (gs.out.cell 0 _ rfl) (frozen_of_row _ _ _ _ _ gs.out)) kc.out ?_;simp only[yQ,yU,yX,yY];clear al;obtain⟨f3,am⟩:∃d,d=ce.setCell ⟨y,0,none⟩ (.int .i64 (g:Int)):=⟨_,rfl⟩;have kd:Hid (af a f3):=by show Below _ _ _;rw[am];exact kc.out.setCell (by exact tb.out) _
    have sp:Hid (aa f3 y #[.int .i64 (g:Int)] 3):=by show aa _ _ _ _;rw[am];exact dx.out.eC _
    have mp:=Lib.hid (sn.out.bw ⟨y,0,none⟩ (.int .i64 (g:Int)) (i8.out));rw[<-am]at mp;refine' bj (w':=f3) rfl (by rw[am];exact bI rfl ⟨y,0,none⟩ g rfl rfl (dx.out.cell 0 _ rfl) (frozen_of_row _ _ _ _ _ dx.out)) kd.out ?_;simp only[yQ,yU,yX,yY];clear am;refine ag ?_;clear j o;go_wp2;go_ret;exact⟨_,_,rfl,⟨sp.out,mp.out⟩,ab r.out kd.out⟩
   ·simp only[reduceIte,Nat.reduceEqDiff,wpTree,attachW,List.getElem?_cons_zero,List.getElem?_cons_succ];obtain⟨z,co⟩:∃d,d=t.alloc (.cells #[.int .i64 0] 3):=⟨_,rfl⟩;obtain⟨A,f6⟩:∃b,b=t.heap.size:=⟨_,rfl⟩;have r3:Hid (Below t.heap.size t z):=by show Below _ _ _;rw[co];exact ar _ _
    have f7:Hid (af a z):=ab ad.out r3.out;have i9:Hid (aa z A #[.int .i64 0] 3/\a.heap.size<=A):=by show _/\_;rw[co,f6];exact⟨aa.new _ _ _ _ oS,ad.out.size⟩
    have ms:=Lib.hid i9.out.1;have tl:=Lib.hid i9.out.2;refine' zQ (v:= .pointer (some ⟨A,0,none⟩)) (w':=z) rfl (by rw[f6,co];go_simp) f7.out ?_;clear co f6;refine ag ?_
    (try simp only[reduceIte,Nat.reduceEqDiff,wpTree,attachW,List.getElem?_cons_zero,List.getElem?_cons_succ])
    obtain⟨Z,cp⟩:∃d,d=z.alloc (.cells #[.int .i64 0] 3):=⟨_,rfl⟩;obtain⟨C,cq⟩:∃b,b=z.heap.size:=⟨_,rfl⟩;have kf:Hid (Below z.heap.size z Z):=by show Below _ _ _;rw[cp];exact ar _ _
    have km:Hid (af a Z):=ab f7.out kf.out;have jp:Hid (aa Z C #[.int .i64 0] 3/\a.heap.size<=C):=by show _/\_;rw[cp,cq];exact⟨aa.new _ _ _ _ oS,f7.out.size⟩
    have jr:Hid (A≠C):=by show _≠_;rw[cq];exact Nat.ne_of_lt (aw ms.out)
    have st:=Lib.hid (ms.out.below kf.out);have gt:=Lib.hid jp.out.1;have tp:=Lib.hid jp.out.2;refine' zQ (v:= .pointer (some ⟨C,0,none⟩)) (w':=Z) rfl (by rw[cq,cp];go_simp) km.out ?_;clear cp cq;obtain⟨cg,ap⟩:∃d,d=Z.setCell ⟨C,0,none⟩ (.int .i64 (f:Int)):=⟨_,rfl⟩;have kp:Hid (af a cg):=by show Below _ _ _;rw[ap];exact km.out.setCell (by exact tp.out) _
    have sv:Hid (aa cg C #[.int .i64 (f:Int)] 3):=by show aa _ _ _ _;rw[ap];exact gt.out.eC _
    have dy:=Lib.hid (st.out.bw ⟨C,0,none⟩ (.int .i64 (f:Int)) (jr.out.symm.symm));rw[<-ap]at dy;refine' bj (w':=cg) rfl (by rw[ap];exact bI rfl ⟨C,0,none⟩ f rfl rfl (gt.out.cell 0 _ rfl) (frozen_of_row _ _ _ _ _ gt.out)) kp.out ?_;simp only[yQ,yU,yX,yY];clear ap;obtain⟨f8,a9⟩:∃d,d=cg.setCell ⟨A,0,none⟩ (.int .i64 (g:Int)):=⟨_,rfl⟩;have mt:Hid (af a f8):=by show Below _ _ _;rw[a9];exact kp.out.setCell (by exact tl.out) _
    have tr:Hid (aa f8 A #[.int .i64 (g:Int)] 3):=by show aa _ _ _ _;rw[a9];exact dy.out.eC _
    have p5:=Lib.hid (sv.out.bw ⟨A,0,none⟩ (.int .i64 (g:Int)) (jr.out.symm));rw[<-a9]at p5;refine' bj (w':=f8) rfl (by rw[a9];exact bI rfl ⟨A,0,none⟩ g rfl rfl (dy.out.cell 0 _ rfl) (frozen_of_row _ _ _ _ _ dy.out)) mt.out ?_;simp only[yQ,yU,yX,yY];clear a9;refine ag ?_;clear j o;go_wp2;go_ret;exact⟨_,_,rfl,⟨tr.out,p5.out⟩,ab r.out mt.out⟩
  ·simp only[reduceIte,Nat.reduceEqDiff,wpTree,attachW,List.getElem?_cons_zero,List.getElem?_cons_succ];obtain⟨D,d0⟩:∃d,d=s.alloc (.cells #[.int .i64 0] 3):=⟨_,rfl⟩;obtain⟨p,gx⟩:∃b,b=s.heap.size:=⟨_,rfl⟩;have s0:Hid (Below s.heap.size s D):=by show Below _ _ _;rw[d0];exact ar _ _
   have d1:Hid (af a D):=ab X.out s0.out;have ks:Hid (aa D p #[.int .i64 0] 3/\a.heap.size<=p):=by show _/\_;rw[d0,gx];exact⟨aa.new _ _ _ _ oS,X.out.size⟩
   have g2:=Lib.hid ks.out.1;have rs:=Lib.hid ks.out.2;refine' zQ (v:= .pointer (some ⟨p,0,none⟩)) (w':=D) rfl (by rw[gx,d0];go_simp) d1.out ?_;clear d0 gx;refine ag ?_
   (try simp only[reduceIte,Nat.reduceEqDiff,wpTree,attachW,List.getElem?_cons_zero,List.getElem?_cons_succ])
   refine ag ?_;intro k i;simp only[List.mem_cons,List.not_mem_nil,or_false]at i;rcases i with rfl|rfl
   ·simp only[reduceIte,Nat.reduceEqDiff,wpTree,attachW,List.getElem?_cons_zero,List.getElem?_cons_succ];refine zZ ?_;refine(j.out _).mono ?_;rintro e av ⟨rfl,hb⟩;have gy:Hid (af a av):=ab d1.out hb;have qi:=Lib.hid (g2.out.below hb);clear hb;refine⟨_,rfl,gy.out,jO ?_⟩;refine ag ?_
    (try simp only[reduceIte,Nat.reduceEqDiff,wpTree,attachW,List.getElem?_cons_zero,List.getElem?_cons_succ])
    repeat refine zO l.out ?_
    obtain⟨a0,d2⟩:∃d,d=av.alloc (.cells #[.int .i64 0] 3):=⟨_,rfl⟩;obtain⟨E,d3⟩:∃b,b=av.heap.size:=⟨_,rfl⟩;have mv:Hid (Below av.heap.size av a0):=by show Below _ _ _;rw[d2];exact ar _ _
    have m0:Hid (af a a0):=ab gy.out mv.out;have kv:Hid (aa a0 E #[.int .i64 0] 3/\a.heap.size<=E):=by show _/\_;rw[d2,d3];exact⟨aa.new _ _ _ _ oS,gy.out.size⟩
    have kw:Hid (p≠E):=by show _≠_;rw[d3];exact Nat.ne_of_lt (aw qi.out)
    have g3:=Lib.hid (qi.out.below mv.out);have ts:=Lib.hid kv.out.1;have ww:=Lib.hid kv.out.2;refine' zQ (v:= .pointer (some ⟨E,0,none⟩)) (w':=a0) rfl (by rw[d3,d2];go_simp) m0.out ?_;clear d2 d3;obtain⟨cr,bb⟩:∃d,d=a0.setCell ⟨p,0,none⟩ (.int .i64 (f:Int)):=⟨_,rfl⟩;have m1:Hid (af a cr):=by show Below _ _ _;rw[bb];exact m0.out.setCell (by exact rs.out) _
    have tx:Hid (aa cr p #[.int .i64 (f:Int)] 3):=by show aa _ _ _ _;rw[bb];exact g3.out.eC _
    have fb:=Lib.hid (ts.out.bw ⟨p,0,none⟩ (.int .i64 (f:Int)) (kw.out.symm));rw[<-bb]at fb;refine' bj (w':=cr) rfl (by rw[bb];exact bI rfl ⟨p,0,none⟩ f rfl rfl (g3.out.cell 0 _ rfl) (frozen_of_row _ _ _ _ _ g3.out)) m1.out ?_;simp only[yQ,yU,yX,yY];clear bb;obtain⟨f9,bd⟩:∃d,d=cr.setCell ⟨E,0,none⟩ (.int .i64 (g:Int)):=⟨_,rfl⟩;have m2:Hid (af a f9):=by show Below _ _ _;rw[bd];exact m1.out.setCell (by exact ww.out) _
    have ty:Hid (aa f9 E #[.int .i64 (g:Int)] 3):=by show aa _ _ _ _;rw[bd];exact fb.out.eC _
    have qr:=Lib.hid (tx.out.bw ⟨E,0,none⟩ (.int .i64 (g:Int)) (kw.out));rw[<-bd]at qr;refine' bj (w':=f9) rfl (by rw[bd];exact bI rfl ⟨E,0,none⟩ g rfl rfl (fb.out.cell 0 _ rfl) (frozen_of_row _ _ _ _ _ fb.out)) m2.out ?_;simp only[yQ,yU,yX,yY];clear bd;refine ag ?_;clear j o;go_wp2;go_ret;exact⟨_,_,rfl,⟨ty.out,qr.out⟩,ab r.out m2.out⟩
   ·simp only[reduceIte,Nat.reduceEqDiff,wpTree,attachW,List.getElem?_cons_zero,List.getElem?_cons_succ];obtain⟨cs,d4⟩:∃d,d=D.alloc (.cells #[.int .i64 0] 3):=⟨_,rfl⟩;obtain⟨F,d5⟩:∃b,b=D.heap.size:=⟨_,rfl⟩;have m3:Hid (Below D.heap.size D cs):=by show Below _ _ _;rw[d4];exact ar _ _
    have m4:Hid (af a cs):=ab d1.out m3.out;have k0:Hid (aa cs F #[.int .i64 0] 3/\a.heap.size<=F):=by show _/\_;rw[d4,d5];exact⟨aa.new _ _ _ _ oS,d1.out.size⟩
    have k1:Hid (p≠F):=by show _≠_;rw[d5];exact Nat.ne_of_lt (aw g2.out)
    have t0:=Lib.hid (g2.out.below m3.out);have t1:=Lib.hid k0.out.1;have wx:=Lib.hid k0.out.2;refine' zQ (v:= .pointer (some ⟨F,0,none⟩)) (w':=cs) rfl (by rw[d5,d4];go_simp) m4.out ?_;clear d4 d5;refine ag ?_
    (try simp only[reduceIte,Nat.reduceEqDiff,wpTree,attachW,List.getElem?_cons_zero,List.getElem?_cons_succ])
    refine zZ ?_;refine(j.out _).mono ?_;rintro e k2 ⟨rfl,hb⟩;have m5:Hid (af a k2):=ab m4.out hb;have g4:=Lib.hid (t0.out.below hb);have t2:=Lib.hid (t1.out.below hb);clear hb;refine⟨_,rfl,m5.out,jO ?_⟩
    repeat refine zO l.out ?_
    obtain⟨cv,be⟩:∃d,d=k2.setCell ⟨p,0,none⟩ (.int .i64 (f:Int)):=⟨_,rfl⟩;have m6:Hid (af a cv):=by show Below _ _ _;rw[be];exact m5.out.setCell (by exact rs.out) _
    have t3:Hid (aa cv p #[.int .i64 (f:Int)] 3):=by show aa _ _ _ _;rw[be];exact g4.out.eC _
    have fd:=Lib.hid (t2.out.bw ⟨p,0,none⟩ (.int .i64 (f:Int)) (k1.out.symm));rw[<-be]at fd;refine' bj (w':=cv) rfl (by rw[be];exact bI rfl ⟨p,0,none⟩ f rfl rfl (g4.out.cell 0 _ rfl) (frozen_of_row _ _ _ _ _ g4.out)) m6.out ?_;simp only[yQ,yU,yX,yY];clear be;obtain⟨ga,bf⟩:∃d,d=cv.setCell ⟨F,0,none⟩ (.int .i64 (g:Int)):=⟨_,rfl⟩;have m7:Hid (af a ga):=by show Below _ _ _;rw[bf];exact m6.out.setCell (by exact wx.out) _
    have t4:Hid (aa ga F #[.int .i64 (g:Int)] 3):=by show aa _ _ _ _;rw[bf];exact fd.out.eC _
    have qs:=Lib.hid (t3.out.bw ⟨F,0,none⟩ (.int .i64 (g:Int)) (k1.out));rw[<-bf]at qs;refine' bj (w':=ga) rfl (by rw[bf];exact bI rfl ⟨F,0,none⟩ g rfl rfl (fd.out.cell 0 _ rfl) (frozen_of_row _ _ _ _ _ fd.out)) m7.out ?_;simp only[yQ,yU,yX,yY];clear bf;refine ag ?_;clear j o;go_wp2;go_ret;exact⟨_,_,rfl,⟨t4.out,qs.out⟩,ab r.out m7.out⟩
  ·simp only[reduceIte,Nat.reduceEqDiff,wpTree,attachW,List.getElem?_cons_zero,List.getElem?_cons_succ];obtain⟨G,d6⟩:∃d,d=s.alloc (.cells #[.int .i64 0] 3):=⟨_,rfl⟩;obtain⟨q,gL⟩:∃b,b=s.heap.size:=⟨_,rfl⟩;have s1:Hid (Below s.heap.size s G):=by show Below _ _ _;rw[d6];exact ar _ _
   have d7:Hid (af a G):=ab X.out s1.out;have k3:Hid (aa G q #[.int .i64 0] 3/\a.heap.size<=q):=by show _/\_;rw[d6,gL];exact⟨aa.new _ _ _ _ oS,X.out.size⟩
   have g5:=Lib.hid k3.out.1;have rt:=Lib.hid k3.out.2;refine' zQ (v:= .pointer (some ⟨q,0,none⟩)) (w':=G) rfl (by rw[gL,d6];go_simp) d7.out ?_;clear d6 gL;refine ag ?_
   (try simp only[reduceIte,Nat.reduceEqDiff,wpTree,attachW,List.getElem?_cons_zero,List.getElem?_cons_succ])
   refine ag ?_;intro k i;simp only[List.mem_cons,List.not_mem_nil,or_false]at i;rcases i with rfl|rfl
   ·simp only[reduceIte,Nat.reduceEqDiff,wpTree,attachW,List.getElem?_cons_zero,List.getElem?_cons_succ];refine zZ ?_;refine(j.out _).mono ?_;rintro e a1 ⟨rfl,hb⟩;have gN:Hid (af a a1):=ab d7.out hb;have q0:=Lib.hid (g5.out.below hb);clear hb;refine⟨_,rfl,gN.out,jO ?_⟩;refine ag ?_
    (try simp only[reduceIte,Nat.reduceEqDiff,wpTree,attachW,List.getElem?_cons_zero,List.getElem?_cons_succ])
    repeat refine zO l.out ?_
    obtain⟨a2,d8⟩:∃d,d=a1.alloc (.cells #[.int .i64 0] 3):=⟨_,rfl⟩;obtain⟨H,d9⟩:∃b,b=a1.heap.size:=⟨_,rfl⟩;have m8:Hid (Below a1.heap.size a1 a2):=by show Below _ _ _;rw[d8];exact ar _ _
    have m9:Hid (af a a2):=ab gN.out m8.out;have k4:Hid (aa a2 H #[.int .i64 0] 3/\a.heap.size<=H):=by show _/\_;rw[d8,d9];exact⟨aa.new _ _ _ _ oS,gN.out.size⟩
    have k5:Hid (q≠H):=by show _≠_;rw[d9];exact Nat.ne_of_lt (aw q0.out)
    have t5:=Lib.hid (q0.out.below m8.out);have g6:=Lib.hid k4.out.1;have wy:=Lib.hid k4.out.2;refine' zQ (v:= .pointer (some ⟨H,0,none⟩)) (w':=a2) rfl (by rw[d9,d8];go_simp) m9.out ?_;clear d8 d9;obtain⟨cx,bi⟩:∃d,d=a2.setCell ⟨H,0,none⟩ (.int .i64 (f:Int)):=⟨_,rfl⟩;have na:Hid (af a cx):=by show Below _ _ _;rw[bi];exact m9.out.setCell (by exact wy.out) _
    have t6:Hid (aa cx H #[.int .i64 (f:Int)] 3):=by show aa _ _ _ _;rw[bi];exact g6.out.eC _
    have fn:=Lib.hid (t5.out.bw ⟨H,0,none⟩ (.int .i64 (f:Int)) (k5.out.symm.symm));rw[<-bi]at fn;refine' bj (w':=cx) rfl (by rw[bi];exact bI rfl ⟨H,0,none⟩ f rfl rfl (g6.out.cell 0 _ rfl) (frozen_of_row _ _ _ _ _ g6.out)) na.out ?_;simp only[yQ,yU,yX,yY];clear bi;obtain⟨gb,bo⟩:∃d,d=cx.setCell ⟨q,0,none⟩ (.int .i64 (g:Int)):=⟨_,rfl⟩;have nb:Hid (af a gb):=by show Below _ _ _;rw[bo];exact na.out.setCell (by exact rt.out) _
    have t7:Hid (aa gb q #[.int .i64 (g:Int)] 3):=by show aa _ _ _ _;rw[bo];exact fn.out.eC _
    have q1:=Lib.hid (t6.out.bw ⟨q,0,none⟩ (.int .i64 (g:Int)) (k5.out.symm));rw[<-bo]at q1;refine' bj (w':=gb) rfl (by rw[bo];exact bI rfl ⟨q,0,none⟩ g rfl rfl (fn.out.cell 0 _ rfl) (frozen_of_row _ _ _ _ _ fn.out)) nb.out ?_;simp only[yQ,yU,yX,yY];clear bo;refine ag ?_;clear j o;go_wp2;go_ret;exact⟨_,_,rfl,⟨t7.out,q1.out⟩,ab r.out nb.out⟩
   ·simp only[reduceIte,Nat.reduceEqDiff,wpTree,attachW,List.getElem?_cons_zero,List.getElem?_cons_succ];obtain⟨c2,ea⟩:∃d,d=G.alloc (.cells #[.int .i64 0] 3):=⟨_,rfl⟩;obtain⟨J,ec⟩:∃b,b=G.heap.size:=⟨_,rfl⟩;have nc:Hid (Below G.heap.size G c2):=by show Below _ _ _;rw[ea];exact ar _ _
    have nl:Hid (af a c2):=ab d7.out nc.out;have k7:Hid (aa c2 J #[.int .i64 0] 3/\a.heap.size<=J):=by show _/\_;rw[ea,ec];exact⟨aa.new _ _ _ _ oS,d7.out.size⟩
    have k9:Hid (q≠J):=by show _≠_;rw[ec];exact Nat.ne_of_lt (aw g5.out)
    have t8:=Lib.hid (g5.out.below nc.out);have t9:=Lib.hid k7.out.1;have wA:=Lib.hid k7.out.2;refine' zQ (v:= .pointer (some ⟨J,0,none⟩)) (w':=c2) rfl (by rw[ec,ea];go_simp) nl.out ?_;clear ea ec;refine ag ?_
    (try simp only[reduceIte,Nat.reduceEqDiff,wpTree,attachW,List.getElem?_cons_zero,List.getElem?_cons_succ])
    refine zZ ?_;refine(j.out _).mono ?_;rintro e la ⟨rfl,hb⟩;have no:Hid (af a la):=ab nl.out hb;have g7:=Lib.hid (t9.out.below hb);have ul:=Lib.hid (t8.out.below hb);clear hb;refine⟨_,rfl,no.out,jO ?_⟩
    repeat refine zO l.out ?_
    obtain⟨c3,bq⟩:∃d,d=la.setCell ⟨J,0,none⟩ (.int .i64 (f:Int)):=⟨_,rfl⟩;have np:Hid (af a c3):=by show Below _ _ _;rw[bq];exact no.out.setCell (by exact wA.out) _
    have un:Hid (aa c3 J #[.int .i64 (f:Int)] 3):=by show aa _ _ _ _;rw[bq];exact g7.out.eC _
    have fo:=Lib.hid (ul.out.bw ⟨J,0,none⟩ (.int .i64 (f:Int)) (k9.out.symm.symm));rw[<-bq]at fo;refine' bj (w':=c3) rfl (by rw[bq];exact bI rfl ⟨J,0,none⟩ f rfl rfl (g7.out.cell 0 _ rfl) (frozen_of_row _ _ _ _ _ g7.out)) np.out ?_;simp only[yQ,yU,yX,yY];clear bq;obtain⟨gc,bs⟩:∃d,d=c3.setCell ⟨q,0,none⟩ (.int .i64 (g:Int)):=⟨_,rfl⟩;have nx:Hid (af a gc):=by show Below _ _ _;rw[bs];exact np.out.setCell (by exact rt.out) _
    have up:Hid (aa gc q #[.int .i64 (g:Int)] 3):=by show aa _ _ _ _;rw[bs];exact fo.out.eC _
    have q2:=Lib.hid (un.out.bw ⟨q,0,none⟩ (.int .i64 (g:Int)) (k9.out.symm));rw[<-bs]at q2;refine' bj (w':=gc) rfl (by rw[bs];exact bI rfl ⟨q,0,none⟩ g rfl rfl (fo.out.cell 0 _ rfl) (frozen_of_row _ _ _ _ _ fo.out)) nx.out ?_;simp only[yQ,yU,yX,yY];clear bs;refine ag ?_;clear j o;go_wp2;go_ret;exact⟨_,_,rfl,⟨up.out,q2.out⟩,ab r.out nx.out⟩
 ·simp only[reduceIte,Nat.reduceEqDiff,wpTree,attachW,List.getElem?_cons_zero,List.getElem?_cons_succ];obtain⟨K,ed⟩:∃d,d=a.drew.alloc (.cells #[.int .i64 0] 3):=⟨_,rfl⟩;obtain⟨m,gX⟩:∃b,b=a.drew.heap.size:=⟨_,rfl⟩;have s2:Hid (Below a.drew.heap.size a.drew K):=by show Below _ _ _;rw[ed];exact ar _ _
  have ef:Hid (af a K):=ab V.out s2.out;have lc:Hid (aa K m #[.int .i64 0] 3/\a.heap.size<=m):=by show _/\_;rw[ed,gX];exact⟨aa.new _ _ _ _ oS,V.out.size⟩
  have g8:=Lib.hid lc.out.1;have i0:=Lib.hid lc.out.2;refine' zQ (v:= .pointer (some ⟨m,0,none⟩)) (w':=K) rfl (by rw[gX,ed];go_simp) ef.out ?_;clear ed gX;refine ag ?_
  (try simp only[reduceIte,Nat.reduceEqDiff,wpTree,attachW,List.getElem?_cons_zero,List.getElem?_cons_succ])
  refine ag ?_;intro k i;simp only[List.mem_cons,List.not_mem_nil,or_false]at i;rcases i with rfl|rfl
  ·simp only[reduceIte,Nat.reduceEqDiff,wpTree,attachW,List.getElem?_cons_zero,List.getElem?_cons_succ];refine zZ ?_;refine(o.out _).mono ?_;rintro e a3 ⟨rfl,hb⟩;have eh:Hid (af a a3):=ab ef.out hb;have g9:=Lib.hid (g8.out.below hb);clear hb;refine⟨_,rfl,eh.out,jO ?_⟩;refine ag ?_
   (try simp only[reduceIte,Nat.reduceEqDiff,wpTree,attachW,List.getElem?_cons_zero,List.getElem?_cons_succ])
   repeat refine zO l.out ?_
   refine ag ?_;intro k i;simp only[List.mem_cons,List.not_mem_nil,or_false]at i;rcases i with rfl|rfl
   ·simp only[reduceIte,Nat.reduceEqDiff,wpTree,attachW,List.getElem?_cons_zero,List.getElem?_cons_succ];refine zZ ?_;refine(j.out _).mono ?_;rintro e a4 ⟨rfl,hb⟩;have gY:Hid (af a a4):=ab eh.out hb;have q3:=Lib.hid (g9.out.below hb);clear hb;refine⟨_,rfl,gY.out,jO ?_⟩;refine ag ?_
    (try simp only[reduceIte,Nat.reduceEqDiff,wpTree,attachW,List.getElem?_cons_zero,List.getElem?_cons_succ])
    repeat refine zO l.out ?_
    obtain⟨a5,ej⟩:∃d,d=a4.alloc (.cells #[.int .i64 0] 3):=⟨_,rfl⟩;obtain⟨M,ek⟩:∃b,b=a4.heap.size:=⟨_,rfl⟩;have n0:Hid (Below a4.heap.size a4 a5):=by show Below _ _ _;rw[ej];exact ar _ _
    have n5:Hid (af a a5):=ab gY.out n0.out;have li:Hid (aa a5 M #[.int .i64 0] 3/\a.heap.size<=M):=by show _/\_;rw[ej,ek];exact⟨aa.new _ _ _ _ oS,gY.out.size⟩
    have ll:Hid (m≠M):=by show _≠_;rw[ek];exact Nat.ne_of_lt (aw q3.out)
    have ib:=Lib.hid (q3.out.below n0.out);have us:=Lib.hid li.out.1;have wE:=Lib.hid li.out.2;refine' zQ (v:= .pointer (some ⟨M,0,none⟩)) (w':=a5) rfl (by rw[ek,ej];go_simp) n5.out ?_;clear ej ek;obtain⟨c4,bt⟩:∃d,d=a5.setCell ⟨m,0,none⟩ (.int .i64 (f:Int)):=⟨_,rfl⟩;have n6:Hid (af a c4):=by show Below _ _ _;rw[bt];exact n5.out.setCell (by exact i0.out) _
    have ut:Hid (aa c4 m #[.int .i64 (f:Int)] 3):=by show aa _ _ _ _;rw[bt];exact ib.out.eC _
    have fr:=Lib.hid (us.out.bw ⟨m,0,none⟩ (.int .i64 (f:Int)) (ll.out.symm));rw[<-bt]at fr;refine' bj (w':=c4) rfl (by rw[bt];exact bI rfl ⟨m,0,none⟩ f rfl rfl (ib.out.cell 0 _ rfl) (frozen_of_row _ _ _ _ _ ib.out)) n6.out ?_;simp only[yQ,yU,yX,yY];clear bt;obtain⟨gd,bv⟩:∃d,d=c4.setCell ⟨M,0,none⟩ (.int .i64 (g:Int)):=⟨_,rfl⟩;have n7:Hid (af a gd):=by show Below _ _ _;rw[bv];exact n6.out.setCell (by exact wE.out) _
    have uv:Hid (aa gd M #[.int .i64 (g:Int)] 3):=by show aa _ _ _ _;rw[bv];exact fr.out.eC _
    have q4:=Lib.hid (ut.out.bw ⟨M,0,none⟩ (.int .i64 (g:Int)) (ll.out));rw[<-bv]at q4;refine' bj (w':=gd) rfl (by rw[bv];exact bI rfl ⟨M,0,none⟩ g rfl rfl (fr.out.cell 0 _ rfl) (frozen_of_row _ _ _ _ _ fr.out)) n7.out ?_;simp only[yQ,yU,yX,yY];clear bv;refine ag ?_;clear j o;go_wp2;go_ret;exact⟨_,_,rfl,⟨uv.out,q4.out⟩,ab r.out n7.out⟩
   ·simp only[reduceIte,Nat.reduceEqDiff,wpTree,attachW,List.getElem?_cons_zero,List.getElem?_cons_succ];obtain⟨c5,el⟩:∃d,d=a3.alloc (.cells #[.int .i64 0] 3):=⟨_,rfl⟩;obtain⟨N,em⟩:∃b,b=a3.heap.size:=⟨_,rfl⟩;have n8:Hid (Below a3.heap.size a3 c5):=by show Below _ _ _;rw[el];exact ar _ _
    have n9:Hid (af a c5):=ab eh.out n8.out;have lm:Hid (aa c5 N #[.int .i64 0] 3/\a.heap.size<=N):=by show _/\_;rw[el,em];exact⟨aa.new _ _ _ _ oS,eh.out.size⟩
    have ls:Hid (m≠N):=by show _≠_;rw[em];exact Nat.ne_of_lt (aw g9.out)
    have va:=Lib.hid (g9.out.below n8.out);have vq:=Lib.hid lm.out.1;have wG:=Lib.hid lm.out.2;refine' zQ (v:= .pointer (some ⟨N,0,none⟩)) (w':=c5) rfl (by rw[em,el];go_simp) n9.out ?_;clear el em;refine ag ?_
    (try simp only[reduceIte,Nat.reduceEqDiff,wpTree,attachW,List.getElem?_cons_zero,List.getElem?_cons_succ])
    refine zZ ?_;refine(j.out _).mono ?_;rintro e lu ⟨rfl,hb⟩;have oa:Hid (af a lu):=ab n9.out hb;have ih:=Lib.hid (va.out.below hb);have vr:=Lib.hid (vq.out.below hb);clear hb;refine⟨_,rfl,oa.out,jO ?_⟩
    repeat refine zO l.out ?_
    obtain⟨c6,bx⟩:∃d,d=lu.setCell ⟨m,0,none⟩ (.int .i64 (f:Int)):=⟨_,rfl⟩;have ob:Hid (af a c6):=by show Below _ _ _;rw[bx];exact oa.out.setCell (by exact i0.out) _
    have vs:Hid (aa c6 m #[.int .i64 (f:Int)] 3):=by show aa _ _ _ _;rw[bx];exact ih.out.eC _
    have fv:=Lib.hid (vr.out.bw ⟨m,0,none⟩ (.int .i64 (f:Int)) (ls.out.symm));rw[<-bx]at fv;refine' bj (w':=c6) rfl (by rw[bx];exact bI rfl ⟨m,0,none⟩ f rfl rfl (ih.out.cell 0 _ rfl) (frozen_of_row _ _ _ _ _ ih.out)) ob.out ?_;simp only[yQ,yU,yX,yY];clear bx;obtain⟨ge,b1⟩:∃d,d=c6.setCell ⟨N,0,none⟩ (.int .i64 (g:Int)):=⟨_,rfl⟩;have oi:Hid (af a ge):=by show Below _ _ _;rw[b1];exact ob.out.setCell (by exact wG.out) _
    have vv:Hid (aa ge N #[.int .i64 (g:Int)] 3):=by show aa _ _ _ _;rw[b1];exact fv.out.eC _
    have rb:=Lib.hid (vs.out.bw ⟨N,0,none⟩ (.int .i64 (g:Int)) (ls.out));rw[<-b1]at rb;refine' bj (w':=ge) rfl (by rw[b1];exact bI rfl ⟨N,0,none⟩ g rfl rfl (fv.out.cell 0 _ rfl) (frozen_of_row _ _ _ _ _ fv.out)) oi.out ?_;simp only[yQ,yU,yX,yY];clear b1;refine ag ?_;clear j o;go_wp2;go_ret;exact⟨_,_,rfl,⟨vv.out,rb.out⟩,ab r.out oi.out⟩
  ·simp only[reduceIte,Nat.reduceEqDiff,wpTree,attachW,List.getElem?_cons_zero,List.getElem?_cons_succ];obtain⟨c7,en⟩:∃d,d=K.alloc (.cells #[.int .i64 0] 3):=⟨_,rfl⟩;obtain⟨O,eq⟩:∃b,b=K.heap.size:=⟨_,rfl⟩;have oj:Hid (Below K.heap.size K c7):=by show Below _ _ _;rw[en];exact ar _ _
   have ol:Hid (af a c7):=ab ef.out oj.out;have lv:Hid (aa c7 O #[.int .i64 0] 3/\a.heap.size<=O):=by show _/\_;rw[en,eq];exact⟨aa.new _ _ _ _ oS,ef.out.size⟩
   have lw:Hid (m≠O):=by show _≠_;rw[eq];exact Nat.ne_of_lt (aw g8.out)
   have vA:=Lib.hid (g8.out.below oj.out);have vG:=Lib.hid lv.out.1;have wI:=Lib.hid lv.out.2;refine' zQ (v:= .pointer (some ⟨O,0,none⟩)) (w':=c7) rfl (by rw[eq,en];go_simp) ol.out ?_;clear en eq;refine ag ?_
   (try simp only[reduceIte,Nat.reduceEqDiff,wpTree,attachW,List.getElem?_cons_zero,List.getElem?_cons_succ])
   refine zZ ?_;refine(o.out _).mono ?_;rintro e sb ⟨rfl,hb⟩;have oo:Hid (af a sb):=ab ol.out hb;have v0:=Lib.hid (vA.out.below hb);have v1:=Lib.hid (vG.out.below hb);clear hb;refine⟨_,rfl,oo.out,jO ?_⟩
   repeat refine zO l.out ?_
   refine zZ ?_;refine(j.out _).mono ?_;rintro e lx ⟨rfl,hb⟩;have op:Hid (af a lx):=ab oo.out hb;have ii:=Lib.hid (v0.out.below hb);have v2:=Lib.hid (v1.out.below hb);clear hb;refine⟨_,rfl,op.out,jO ?_⟩
   repeat refine zO l.out ?_
   obtain⟨c8,b2⟩:∃d,d=lx.setCell ⟨m,0,none⟩ (.int .i64 (f:Int)):=⟨_,rfl⟩;have os:Hid (af a c8):=by show Below _ _ _;rw[b2];exact op.out.setCell (by exact i0.out) _
   have v3:Hid (aa c8 m #[.int .i64 (f:Int)] 3):=by show aa _ _ _ _;rw[b2];exact ii.out.eC _
   have fx:=Lib.hid (v2.out.bw ⟨m,0,none⟩ (.int .i64 (f:Int)) (lw.out.symm));rw[<-b2]at fx;refine' bj (w':=c8) rfl (by rw[b2];exact bI rfl ⟨m,0,none⟩ f rfl rfl (ii.out.cell 0 _ rfl) (frozen_of_row _ _ _ _ _ ii.out)) os.out ?_;simp only[yQ,yU,yX,yY];clear b2;obtain⟨gg,b3⟩:∃d,d=c8.setCell ⟨O,0,none⟩ (.int .i64 (g:Int)):=⟨_,rfl⟩;have ov:Hid (af a gg):=by show Below _ _ _;rw[b3];exact os.out.setCell (by exact wI.out) _
   have v4:Hid (aa gg O #[.int .i64 (g:Int)] 3):=by show aa _ _ _ _;rw[b3];exact fx.out.eC _
   have rc:=Lib.hid (v3.out.bw ⟨O,0,none⟩ (.int .i64 (g:Int)) (lw.out));rw[<-b3]at rc;refine' bj (w':=gg) rfl (by rw[b3];exact bI rfl ⟨O,0,none⟩ g rfl rfl (fx.out.cell 0 _ rfl) (frozen_of_row _ _ _ _ _ fx.out)) ov.out ?_;simp only[yQ,yU,yX,yY];clear b3;refine ag ?_;clear j o;go_wp2;go_ret;exact⟨_,_,rfl,⟨v4.out,rc.out⟩,ab r.out ov.out⟩
 ·simp only[reduceIte,Nat.reduceEqDiff,wpTree,attachW,List.getElem?_cons_zero,List.getElem?_cons_succ];obtain⟨P,er⟩:∃d,d=a.drew.alloc (.cells #[.int .i64 0] 3):=⟨_,rfl⟩;obtain⟨n,g0⟩:∃b,b=a.drew.heap.size:=⟨_,rfl⟩;have s4:Hid (Below a.drew.heap.size a.drew P):=by show Below _ _ _;rw[er];exact ar _ _
  have es:Hid (af a P):=ab V.out s4.out;have ly:Hid (aa P n #[.int .i64 0] 3/\a.heap.size<=n):=by show _/\_;rw[er,g0];exact⟨aa.new _ _ _ _ oS,V.out.size⟩
  have io:=Lib.hid ly.out.1;have i1:=Lib.hid ly.out.2;refine' zQ (v:= .pointer (some ⟨n,0,none⟩)) (w':=P) rfl (by rw[g0,er];go_simp) es.out ?_;clear er g0;refine ag ?_
  (try simp only[reduceIte,Nat.reduceEqDiff,wpTree,attachW,List.getElem?_cons_zero,List.getElem?_cons_succ])
  refine ag ?_;intro k i;simp only[List.mem_cons,List.not_mem_nil,or_false]at i;rcases i with rfl|rfl
  ·simp only[reduceIte,Nat.reduceEqDiff,wpTree,attachW,List.getElem?_cons_zero,List.getElem?_cons_succ];refine zZ ?_;refine(o.out _).mono ?_;rintro e a6 ⟨rfl,hb⟩;have et:Hid (af a a6):=ab es.out hb;have ip:=Lib.hid (io.out.below hb);clear hb;refine⟨_,rfl,et.out,jO ?_⟩;refine ag ?_
   (try simp only[reduceIte,Nat.reduceEqDiff,wpTree,attachW,List.getElem?_cons_zero,List.getElem?_cons_succ])
   repeat refine zO l.out ?_
   refine ag ?_;intro k i;simp only[List.mem_cons,List.not_mem_nil,or_false]at i;rcases i with rfl|rfl
   ·simp only[reduceIte,Nat.reduceEqDiff,wpTree,attachW,List.getElem?_cons_zero,List.getElem?_cons_succ];refine zZ ?_;refine(j.out _).mono ?_;rintro e a7 ⟨rfl,hb⟩;have g1:Hid (af a a7):=ab et.out hb;have rd:=Lib.hid (ip.out.below hb);clear hb;refine⟨_,rfl,g1.out,jO ?_⟩;refine ag ?_
    (try simp only[reduceIte,Nat.reduceEqDiff,wpTree,attachW,List.getElem?_cons_zero,List.getElem?_cons_succ])
    repeat refine zO l.out ?_
    obtain⟨a8,eu⟩:∃d,d=a7.alloc (.cells #[.int .i64 0] 3):=⟨_,rfl⟩;obtain⟨Q,ex⟩:∃b,b=a7.heap.size:=⟨_,rfl⟩;have o0:Hid (Below a7.heap.size a7 a8):=by show Below _ _ _;rw[eu];exact ar _ _
    have o1:Hid (af a a8):=ab g1.out o0.out;have l0:Hid (aa a8 Q #[.int .i64 0] 3/\a.heap.size<=Q):=by show _/\_;rw[eu,ex];exact⟨aa.new _ _ _ _ oS,g1.out.size⟩
    have l1:Hid (n≠Q):=by show _≠_;rw[ex];exact Nat.ne_of_lt (aw rd.out)
    have v5:=Lib.hid (rd.out.below o0.out);have it:=Lib.hid l0.out.1;have wL:=Lib.hid l0.out.2;refine' zQ (v:= .pointer (some ⟨Q,0,none⟩)) (w':=a8) rfl (by rw[ex,eu];go_simp) o1.out ?_;clear eu ex;obtain⟨c9,b4⟩:∃d,d=a8.setCell ⟨Q,0,none⟩ (.int .i64 (f:Int)):=⟨_,rfl⟩;have o2:Hid (af a c9):=by show Below _ _ _;rw[b4];exact o1.out.setCell (by exact wL.out) _
    have v6:Hid (aa c9 Q #[.int .i64 (f:Int)] 3):=by show aa _ _ _ _;rw[b4];exact it.out.eC _
    have f0:=Lib.hid (v5.out.bw ⟨Q,0,none⟩ (.int .i64 (f:Int)) (l1.out.symm.symm));rw[<-b4]at f0;refine' bj (w':=c9) rfl (by rw[b4];exact bI rfl ⟨Q,0,none⟩ f rfl rfl (it.out.cell 0 _ rfl) (frozen_of_row _ _ _ _ _ it.out)) o2.out ?_;simp only[yQ,yU,yX,yY];clear b4;obtain⟨gi,b5⟩:∃d,d=c9.setCell ⟨n,0,none⟩ (.int .i64 (g:Int)):=⟨_,rfl⟩;have o3:Hid (af a gi):=by show Below _ _ _;rw[b5];exact o2.out.setCell (by exact i1.out) _
    have v7:Hid (aa gi n #[.int .i64 (g:Int)] 3):=by show aa _ _ _ _;rw[b5];exact f0.out.eC _
    have rf:=Lib.hid (v6.out.bw ⟨n,0,none⟩ (.int .i64 (g:Int)) (l1.out.symm));rw[<-b5]at rf;refine' bj (w':=gi) rfl (by rw[b5];exact bI rfl ⟨n,0,none⟩ g rfl rfl (f0.out.cell 0 _ rfl) (frozen_of_row _ _ _ _ _ f0.out)) o3.out ?_;simp only[yQ,yU,yX,yY];clear b5;refine ag ?_;clear j o;go_wp2;go_ret;exact⟨_,_,rfl,⟨v7.out,rf.out⟩,ab r.out o3.out⟩
   ·simp only[reduceIte,Nat.reduceEqDiff,wpTree,attachW,List.getElem?_cons_zero,List.getElem?_cons_succ];obtain⟨dl,ey⟩:∃d,d=a6.alloc (.cells #[.int .i64 0] 3):=⟨_,rfl⟩;obtain⟨T,ez⟩:∃b,b=a6.heap.size:=⟨_,rfl⟩;have o8:Hid (Below a6.heap.size a6 dl):=by show Below _ _ _;rw[ey];exact ar _ _
    have pb:Hid (af a dl):=ab et.out o8.out;have l2:Hid (aa dl T #[.int .i64 0] 3/\a.heap.size<=T):=by show _/\_;rw[ey,ez];exact⟨aa.new _ _ _ _ oS,et.out.size⟩
    have mb:Hid (n≠T):=by show _≠_;rw[ez];exact Nat.ne_of_lt (aw ip.out)
    have v8:=Lib.hid (ip.out.below o8.out);have v9:=Lib.hid l2.out.1;have wM:=Lib.hid l2.out.2;refine' zQ (v:= .pointer (some ⟨T,0,none⟩)) (w':=dl) rfl (by rw[ez,ey];go_simp) pb.out ?_;clear ey ez;refine ag ?_
    (try simp only[reduceIte,Nat.reduceEqDiff,wpTree,attachW,List.getElem?_cons_zero,List.getElem?_cons_succ])
    refine zZ ?_;refine(j.out _).mono ?_;rintro e md ⟨rfl,hb⟩;have pi:Hid (af a md):=ab pb.out hb;have iv:=Lib.hid (v9.out.below hb);have wd:=Lib.hid (v8.out.below hb);clear hb;refine⟨_,rfl,pi.out,jO ?_⟩
    repeat refine zO l.out ?_
    obtain⟨dm,b6⟩:∃d,d=md.setCell ⟨T,0,none⟩ (.int .i64 (f:Int)):=⟨_,rfl⟩;have pl:Hid (af a dm):=by show Below _ _ _;rw[b6];exact pi.out.setCell (by exact wM.out) _
    have wf:Hid (aa dm T #[.int .i64 (f:Int)] 3):=by show aa _ _ _ _;rw[b6];exact iv.out.eC _
    have f1:=Lib.hid (wd.out.bw ⟨T,0,none⟩ (.int .i64 (f:Int)) (mb.out.symm.symm));rw[<-b6]at f1;refine' bj (w':=dm) rfl (by rw[b6];exact bI rfl ⟨T,0,none⟩ f rfl rfl (iv.out.cell 0 _ rfl) (frozen_of_row _ _ _ _ _ iv.out)) pl.out ?_;simp only[yQ,yU,yX,yY];clear b6;obtain⟨go,b7⟩:∃d,d=dm.setCell ⟨n,0,none⟩ (.int .i64 (g:Int)):=⟨_,rfl⟩;have pm:Hid (af a go):=by show Below _ _ _;rw[b7];exact pl.out.setCell (by exact i1.out) _
    have wl:Hid (aa go n #[.int .i64 (g:Int)] 3):=by show aa _ _ _ _;rw[b7];exact f1.out.eC _
    have rg:=Lib.hid (wf.out.bw ⟨n,0,none⟩ (.int .i64 (g:Int)) (mb.out.symm));rw[<-b7]at rg;refine' bj (w':=go) rfl (by rw[b7];exact bI rfl ⟨n,0,none⟩ g rfl rfl (f1.out.cell 0 _ rfl) (frozen_of_row _ _ _ _ _ f1.out)) pm.out ?_;simp only[yQ,yU,yX,yY];clear b7;refine ag ?_;clear j o;go_wp2;go_ret;exact⟨_,_,rfl,⟨wl.out,rg.out⟩,ab r.out pm.out⟩
  ·simp only[reduceIte,Nat.reduceEqDiff,wpTree,attachW,List.getElem?_cons_zero,List.getElem?_cons_succ];obtain⟨dn,e0⟩:∃d,d=P.alloc (.cells #[.int .i64 0] 3):=⟨_,rfl⟩;obtain⟨U,e9⟩:∃b,b=P.heap.size:=⟨_,rfl⟩;have pp:Hid (Below P.heap.size P dn):=by show Below _ _ _;rw[e0];exact ar _ _
   have pu:Hid (af a dn):=ab es.out pp.out;have me:Hid (aa dn U #[.int .i64 0] 3/\a.heap.size<=U):=by show _/\_;rw[e0,e9];exact⟨aa.new _ _ _ _ oS,es.out.size⟩
   have mk:Hid (n≠U):=by show _≠_;rw[e9];exact Nat.ne_of_lt (aw io.out)
   have wm:=Lib.hid (io.out.below pp.out);have wn:=Lib.hid me.out.1;have wP:=Lib.hid me.out.2;refine' zQ (v:= .pointer (some ⟨U,0,none⟩)) (w':=dn) rfl (by rw[e9,e0];go_simp) pu.out ?_;clear e0 e9;refine ag ?_
   (try simp only[reduceIte,Nat.reduceEqDiff,wpTree,attachW,List.getElem?_cons_zero,List.getElem?_cons_succ])
   refine zZ ?_;refine(o.out _).mono ?_;rintro e sd ⟨rfl,hb⟩;have pv:Hid (af a sd):=ab pu.out hb;have wo:=Lib.hid (wn.out.below hb);have wp:=Lib.hid (wm.out.below hb);clear hb;refine⟨_,rfl,pv.out,jO ?_⟩
   repeat refine zO l.out ?_
   refine zZ ?_;refine(j.out _).mono ?_;rintro e ml ⟨rfl,hb⟩;have p0:Hid (af a ml):=ab pv.out hb;have ix:=Lib.hid (wo.out.below hb);have wq:=Lib.hid (wp.out.below hb);clear hb;refine⟨_,rfl,p0.out,jO ?_⟩
   repeat refine zO l.out ?_
   obtain⟨ds,b8⟩:∃d,d=ml.setCell ⟨U,0,none⟩ (.int .i64 (f:Int)):=⟨_,rfl⟩;have p3:Hid (af a ds):=by show Below _ _ _;rw[b8];exact p0.out.setCell (by exact wP.out) _
   have ws:Hid (aa ds U #[.int .i64 (f:Int)] 3):=by show aa _ _ _ _;rw[b8];exact ix.out.eC _
   have f2:=Lib.hid (wq.out.bw ⟨U,0,none⟩ (.int .i64 (f:Int)) (mk.out.symm.symm));rw[<-b8]at f2;refine' bj (w':=ds) rfl (by rw[b8];exact bI rfl ⟨U,0,none⟩ f rfl rfl (ix.out.cell 0 _ rfl) (frozen_of_row _ _ _ _ _ ix.out)) p3.out ?_;simp only[yQ,yU,yX,yY];clear b8;obtain⟨gq,b9⟩:∃d,d=ds.setCell ⟨n,0,none⟩ (.int .i64 (g:Int)):=⟨_,rfl⟩;have p4:Hid (af a gq):=by show Below _ _ _;rw[b9];exact p3.out.setCell (by exact i1.out) _
   have wt:Hid (aa gq n #[.int .i64 (g:Int)] 3):=by show aa _ _ _ _;rw[b9];exact f2.out.eC _
   have ro:=Lib.hid (ws.out.bw ⟨n,0,none⟩ (.int .i64 (g:Int)) (mk.out.symm));rw[<-b9]at ro;refine' bj (w':=gq) rfl (by rw[b9];exact bI rfl ⟨n,0,none⟩ g rfl rfl (f2.out.cell 0 _ rfl) (frozen_of_row _ _ _ _ _ f2.out)) p4.out ?_;simp only[yQ,yU,yX,yY];clear b9;refine ag ?_;clear j o;go_wp2;go_ret;exact⟨_,_,rfl,⟨wt.out,ro.out⟩,ab r.out p4.out⟩
theorem vH (L:Nat) (w:World):Calls Tryz.prog 92 #[cy L true] w λe w'=>e= .returned (.func (Fn.func 137) #[] #[])/\Below w.heap.size w w':=by
 have a:=ep w L true;obtain⟨b,c⟩:=a.out _ (Below.refl _ _);go_enter Tryz.func92,Tryz.ntmps92;go_wp2;go_ret;exact⟨rfl,ar _ _⟩
theorem qp (L:Nat) (c:Bool) (w:World) (b:L<=32):Calls Tryz.prog 92 #[cy L c] w λe w'=>∃hb a,e= .returned (FG c hb a)/\(c=false->HC L w' hb a)/\Below w.heap.size w w':=by
 cases c with
 |true=>
  refine(vH L w).mono ?_;rintro e w' ⟨rfl,hb⟩;exact⟨0,0,rfl,(λh=>by cases h),hb⟩
 |false=>
  refine(vn L w b).mono ?_;rintro e w' ⟨hb,a,rfl,hc,d⟩;exact⟨hb,a,rfl,λ_=>hc,d⟩
theorem I4 (L:Nat) (c:Bool) (i:Nat):rN L c i=if c=true then 4* (L-i)+9 else 4* (L-i)+12:=rfl
def ee (n:Nat) (w:World) (v:Value) (xs:List Pt):Prop:=SP w v xs/\∀A m k a,v= .slice A m k->A=some a->n<=a.block
theorem ee.bU {W:World} {base:Nat} {e:TypeId} {n:Nat} {v:Value} {xs:List Pt} (h:W.ownsRow base e 2 v n (xs.flatMap eg)):ee base W v xs:=by
 refine⟨SP.bU h,λA m k c e1 e2=>?_⟩;subst e1 e2;rcases h.2 with⟨a,-⟩|⟨g,cap,d,a,b,-⟩
 ·cases a
 ·injection a with a _ _;injection a with a;rw[a];exact b
theorem ee.below {n:Nat} {W a:World} {v:Value} {xs:List Pt} (h:ee n W v xs) (hb:Below W.heap.size W a):ee n a v xs:=⟨h.1.below hb,h.2⟩
theorem ee.mono {n m:Nat} {W:World} {v:Value} {xs:List Pt} (h:ee n W v xs) (b:m<=n):ee m W v xs:=⟨h.1,λA a k c e1 e2=>Nat.le_trans b (h.2 A a k c e1 e2)⟩
theorem xP (a b c d:Value):(#[a,b]++#[c,d]:Array Value)=#[a,b,c,d]:=by simp
theorem jQ (a b c d e:Value):(#[a,b]++#[c,d,e]:Array Value)=#[a,b,c,d,e]:=by simp
theorem Ej (L:Nat) (w:World) (J:L<=32):Calls Tryz.prog 46 #[cy L true] w λe w'=>∃v,e= .returned v/\ee w.heap.size w' v (bR L true)/\Below w.heap.size w w':=by
 obtain⟨c2,c3,c7,c8,c9⟩:=info_parts nJ;have K:=ep w L true;have dl:Hid (∀W,Calls Tryz.prog 92 #[cy L true] W λe w'=>∃hb F,e= .returned (.func (Fn.func 137) #[] #[])/\(true=false->HC L w' hb F)/\Below W.heap.size W w'):=λW=>qp L true W J;have b5:Hid (∀W,Calls Tryz.prog 85 #[cy L true] W λe w'=>e= .returned (.int .i64 ((ax L true:Nat):Int))/\Below W.heap.size W w'):=λW=>qh L true W J;have b6:Hid (∀W,Calls Tryz.prog 89 #[cy L true] W λe w'=>e= .returned (.int .i64 ((dY L true:Nat):Int))/\Below W.heap.size W w'):=λW=>tg L true W J;have U:Hid (L<=32):=J;have dm:=Lib.hid (fX (c:=true) J);have dn:=Lib.hid (room_le (c:=true) J);obtain⟨bq,bs⟩:=dm.out;have cx:=dn.out;obtain⟨M,b7⟩:∃M,M=ax L true-1:=⟨_,rfl⟩;have co:((ax L true:Nat):Int)-1=(M:Int):=oO;have ds:=Lib.hid b7;have eh:M<=141:=oO;obtain⟨R,G⟩:∃R,R=dY L true:=⟨_,rfl⟩;rw[<-G]at b6 cx;clear b7 G;obtain⟨B,hB⟩:∃B,B=ax L true:=⟨_,rfl⟩;rw[<-hB]at b5 bq bs co;clear hB;obtain⟨ad,N⟩:∃ad,ad=w.alloc (bM L true):=⟨_,rfl⟩;have dx:Hid (Below w.heap.size w ad):=by show Below _ _ _;rw[N];exact ar _ _
 have V:Hid (aa ad w.heap.size #[.int .i64 L,.bool true] 60):=by show aa _ _ _ _;rw[N];exact aa.new _ _ _ _ oS
 rw[<-N]at K;obtain⟨C,E⟩:=K.out _ (Below.refl _ _);rw[N]at C E;have dy:∀(W:World) (a:Addr) (g:Fn) (b c:Array Value),(store a (.func g b c)).run Tryz.prog W=stored Tryz.prog W a (.func g b c) .plain:=λW a g b c=>run_store _ W a _ _ rfl;go_enter Tryz.func46,Tryz.ntmps46
 go_wp2_with(first
  |(go_at_call 92;refine(dl.out _).mono ?_;rintro e w1 ⟨hb,F,rfl,b8,a9⟩;rw[<-N]at a9;have y:=Lib.hid a9;have b9:=Lib.hid b8;clear a9 b8 C E;obtain⟨C,E⟩:=K.out _ y.out;have a6:w.heap.size<w1.heap.size:=aw (V.out.below y.out))
  |(go_at_call 85;refine(b5.out _).mono ?_;rintro e w2 ⟨rfl,ca⟩;have z:=Lib.hid ca;clear ca C E;obtain⟨C,E⟩:=K.out _ (ab (ae y.out _) z.out);have c4:w.heap.size<w2.heap.size:=aw (V.out.below (ab (ae y.out _) z.out)))
  |(go_at_call 89;refine(b6.out _).mono ?_;rintro e f ⟨rfl,cb⟩;have H:=Lib.hid cb;clear cb C E;obtain⟨C,E⟩:=K.out _ (ab (ae (ab (ae y.out _) z.out) _) H.out);have s3:w.heap.size<f.heap.size:=aw (V.out.below (ab (ae (ab (ae y.out _) z.out) _) H.out)))
  |(at_make;refine wpList_make_own _ rfl _ _ _ rfl f.heap.size 47 c2 _ 2 Tryz.underlying40 c3 c7 c8 .i64 .i64 _ R rfl rfl (by first|rfl|omega) (by rw[c9];omega) oM (Nat.le_refl _) ?_;intro al cp hg;have d0:=Lib.hid cp;have av:Hid (Below f.heap.size f al):=(Below.refl _ _).grown hg (Nat.le_refl _) (λq hq=>by cases hq);clear cp hg C E;obtain⟨C,E⟩:=K.out _ (ab (ab (ae (ab (ae y.out _) z.out) _) H.out) av.out);have c5:w.heap.size<al.heap.size:=aw (V.out.below (ab (ab (ae (ab (ae y.out _) z.out) _) H.out) av.out))))
 obtain⟨x,X⟩:∃x,x=al.alloc (.cells #[.slice (some ⟨f.heap.size,0,none⟩) 0 R] 40):=⟨_,rfl⟩;obtain⟨u,a0⟩:∃u,u=al.heap.size:=⟨_,rfl⟩;have O:Hid (Below f.heap.size f x):=by show Below _ _ _;rw[X];exact ae av.out _
 obtain⟨p,bb⟩:∃p,p=w1.heap.size:=⟨_,rfl⟩;obtain⟨lb,bd⟩:∃lb,lb=w2.heap.size:=⟨_,rfl⟩;have ce:aa (w1.alloc (.cells #[.func (Fn.func 137) #[] #[]] 77)) w1.heap.size #[.func (Fn.func 137) #[] #[]] 77:=aa.new _ _ _ _ oS;have cg:aa (w2.alloc (.cells #[.int .i64 (M:Int)] 3)) w2.heap.size #[.int .i64 (M:Int)] 3:=aa.new _ _ _ _ oS;have Y:Below w2.heap.size w2 f:=cN H.out;have d1:Hid (lp L true p lb hb F x):=by
  show lp _ _ _ _ _ _ _;refine⟨?_,?_,λe=>?_⟩
  ·rw[bb];exact((ce.below z.out).below Y).below O.out
  ·rw[bd,<-ds.out];exact(cg.below H.out).below O.out
  ·have bt:Below w1.heap.size w1 x:=ab (ab (cN z.out) Y) O.out;have bv:HC L w1 hb F:=by first|exact b9.out e|exact b9.out trivial|cases e
   exact⟨bv.1.below bt,bv.2.below bt⟩
 have ch:Hid (Below w.heap.size w f):=ab dx.out (ab y.out (ab (cN z.out) Y));have be:Hid (aa x w.heap.size #[.int .i64 L,.bool true] 60):=((((V.out.below y.out).below (cN z.out)).below Y)).below O.out;have ci:Hid (BP f.heap.size f x u (iL L true 0)):=by
  show BP _ _ _ _ _;refine⟨O.out,⟨some ⟨f.heap.size,0,none⟩,R,?_,?_⟩,?_,?_⟩
  ·show aa _ _ #[.slice (some ⟨f.heap.size,0,none⟩) 0 R] _;rw[X,a0];exact aa.new _ _ _ _ oS
  ·show World.ownsRow _ _ _ _ (.slice (some ⟨f.heap.size,0,none⟩) 0 R) 0 [];rw[X];exact ah d0.out (ar _ _)
  ·rw[a0];exact av.out.size
  ·exact O.out.size
 have am:x.cell? ⟨w.heap.size,0,none⟩=some (.int .i64 L):=be.out.cell 0 _ rfl;rw[<-X,<-a0,<-bb,<-bd];have P:Hid (aO x x):=aO.refl _;clear a6 c4 s3 c5 dy X a0 bb bd ce cg Y C E N co cx bq bs;go_wp2;clear am;go_loopw [23] (λa7 wr=>∃i:Nat,i<=L/\a7= .int .i64 i/\Hid (BP f.heap.size f wr u (iL L true i)/\aO x wr)) (λa7 _=>L-(intOf a7).toNat)
 case atStart=>exact⟨0,Nat.zero_le _,rfl,ci.out,P.out⟩
 case round=>
  clear ci P;obtain⟨i,ed,rfl,G⟩:=hrel;by_cases d2:i<L
  ·obtain⟨d,bx⟩:∃d,d=L-i:=⟨_,rfl⟩;have d3:(L:Int)-(i:Int)=(d:Int):=oO;obtain⟨r,ap⟩:∃r,r=rN L true i:=⟨_,rfl⟩;have a1:r<=140:=by rw[ap];exact xS J
   have Q:=Lib.hid ap;have d4:4* (d:Int)+9=(r:Int):=by have a8:=I4 L true i;simp at a8;rw[ap,a8,bx];omega
   have ef:d<=32:=oO;obtain⟨o,Z⟩:∃o,o=wr.alloc (.cells #[.int .i64 (i:Int)] 3):=⟨_,rfl⟩;obtain⟨t,S⟩:∃t,t=wr.heap.size:=⟨_,rfl⟩;have ck:Hid (Below wr.heap.size wr o):=by show Below _ _ _;rw[Z];exact ar _ _
   have ac:Hid (aa o t #[.int .i64 (i:Int)] 3):=by show aa _ _ _ _;rw[Z,S];exact aa.new _ _ _ _ oS
   have P:Hid (aO x o):=G.out.2.trans (aO.below ck.out);have d5:Hid (BP f.heap.size f o u (iL L true i++sL L true i 0)):=by show BP _ _ _ _ _;rw[show sL L true i 0=[]from rfl,List.append_nil];exact G.out.1.below ck.out
   have a2:Hid (lp L true p lb hb F o):=d1.out.cZ P.out;have am:o.cell? ⟨w.heap.size,0,none⟩=some (.int .i64 L):=(be.out.gR P.out rfl).cell 0 _ rfl;have T:o.cell? ⟨t,0,none⟩=some (.int .i64 (i:Int)):=ac.out.cell 0 _ rfl;have a3:=Lib.hid d2;have a6:w.heap.size<wr.heap.size:=aw (be.out.gR G.out.2 rfl);rw[Z]at am T;rw[S]at T;clear bx ap;have cq:Hid (∀W,aO o W->∀j k,j<r->k<2->Calls Tryz.prog 94 #[.int .i64 ((j:Nat):Int),.int .i64 ((k:Nat):Int),.pointer (some ⟨p,0,none⟩),.pointer (some ⟨t,0,none⟩)] W λe w'=>e= .returned (.agg #[.int .i64 (((bZ L true i 0 j k).1:Nat):Int),.int .i64 (((bZ L true i 0 j k).2:Nat):Int)])/\Below W.heap.size W w'):=by
    show∀W,_;intro W l j k m n;exact C5 L true p lb t hb F i j k W U.out a3.out (by rw[<-Q.out];exact m) n (a2.out.cZ l) (ac.out.gR l rfl)
   have cr:Hid (∀W,aO o W->∀j k,j<r->k<2->Calls Tryz.prog 95 #[.int .i64 ((j:Nat):Int),.int .i64 ((k:Nat):Int),.pointer (some ⟨p,0,none⟩),.pointer (some ⟨t,0,none⟩),.pointer (some ⟨lb,0,none⟩)] W λe w'=>e= .returned (.agg #[.int .i64 (((bZ L true i 1 j k).1:Nat):Int),.int .i64 (((bZ L true i 1 j k).2:Nat):Int)])/\Below W.heap.size W w'):=by
    show∀W,_;intro W l j k m n;exact CJ L true p lb t hb F i j k W U.out a3.out (by rw[<-Q.out];exact m) n (a2.out.cZ l) (ac.out.gR l rfl)
   have cs:Hid (∀W,aO o W->∀j k,j<r->k<2->Calls Tryz.prog 96 #[.int .i64 ((j:Nat):Int),.int .i64 ((k:Nat):Int),.pointer (some ⟨p,0,none⟩),.pointer (some ⟨lb,0,none⟩),.pointer (some ⟨t,0,none⟩)] W λe w'=>e= .returned (.agg #[.int .i64 (((bZ L true i 2 j k).1:Nat):Int),.int .i64 (((bZ L true i 2 j k).2:Nat):Int)])/\Below W.heap.size W w'):=by
    show∀W,_;intro W l j k m n;exact CI L true p lb t hb F i j k W U.out a3.out (by rw[<-Q.out];exact m) n (a2.out.cZ l) (ac.out.gR l rfl)
   have cv:Hid (∀W,aO o W->∀j k,j<r->k<2->Calls Tryz.prog 97 #[.int .i64 ((j:Nat):Int),.int .i64 ((k:Nat):Int),.pointer (some ⟨p,0,none⟩),.pointer (some ⟨lb,0,none⟩),.pointer (some ⟨t,0,none⟩)] W λe w'=>e= .returned (.agg #[.int .i64 (((bZ L true i 3 j k).1:Nat):Int),.int .i64 (((bZ L true i 3 j k).2:Nat):Int)])/\Below W.heap.size W w'):=by
    show∀W,_;intro W l j k m n;exact CR L true p lb t hb F i j k W U.out a3.out (by rw[<-Q.out];exact m) n (a2.out.cZ l) (ac.out.gR l rfl)
   have a4:Hid (∀s,s<=4->(iL L true i++sL L true i s).length<=60000):=by
    show∀s,_;intro s hs;rw[List.length_append,j1];have a8:=xM (c:=true) U.out i;have ec:s* (2* rN L true i)<=4* (2* 140):=Nat.mul_le_mul hs (by rw[<-Q.out];omega);omega
   have a5:Hid (∀s,iL L true i++sL L true i (s+1)=iL L true i++sL L true i s++jL L true i s r):=by
    show∀s,_;intro s;rw[r4,<-Q.out,List.append_assoc]
   rw[<-S]at T;rw[S]at T;go_wp2_with fail
   rw[<-Z,<-S];clear a6 am T d4 d3 Z S;refine(im f.heap.size f _ u (iL L true i++sL L true i 0) 94 #[.pointer (some ⟨p,0,none⟩),.pointer (some ⟨t,0,none⟩)] L i 0 r true d5.out (a4.out 0 oO) a1 (λargs W=>by go_simp) (λW l j m=>by rw[xP];exact cq.out W (l) j 0 m oO) (λW l j m=>by rw[xP];exact cq.out W (l) j 1 m oO)).mono ?_;rintro e v0 ⟨rfl,D,n⟩;have y:Hid (BP f.heap.size f v0 u (iL L true i++sL L true i 1)):=by show BP _ _ _ _ _;rw[a5.out 0];exact D
   have bf:Hid (aO o v0):=n;clear D n;go_wp2_with fail
   refine(im f.heap.size f _ u (iL L true i++sL L true i 1) 95 #[.pointer (some ⟨p,0,none⟩),.pointer (some ⟨t,0,none⟩),.pointer (some ⟨lb,0,none⟩)] L i 1 r true y.out (a4.out 1 oO) a1 (λargs W=>by go_simp) (λW l j m=>by rw[jQ];exact cr.out W ((bf.out.trans l)) j 0 m oO) (λW l j m=>by rw[jQ];exact cr.out W ((bf.out.trans l)) j 1 m oO)).mono ?_;rintro e v1 ⟨rfl,D,n⟩;have z:Hid (BP f.heap.size f v1 u (iL L true i++sL L true i 2)):=by show BP _ _ _ _ _;rw[a5.out 1];exact D
   have bi:Hid (aO o v1):=bf.out.trans n;clear D n;go_wp2_with fail
   refine(im f.heap.size f _ u (iL L true i++sL L true i 2) 96 #[.pointer (some ⟨p,0,none⟩),.pointer (some ⟨lb,0,none⟩),.pointer (some ⟨t,0,none⟩)] L i 2 r true z.out (a4.out 2 oO) a1 (λargs W=>by go_simp) (λW l j m=>by rw[jQ];exact cs.out W ((bi.out.trans l)) j 0 m oO) (λW l j m=>by rw[jQ];exact cs.out W ((bi.out.trans l)) j 1 m oO)).mono ?_;rintro e b1 ⟨rfl,D,n⟩;have H:Hid (BP f.heap.size f b1 u (iL L true i++sL L true i 3)):=by show BP _ _ _ _ _;rw[a5.out 2];exact D
   have bo:Hid (aO o b1):=bi.out.trans n;clear D n;go_wp2_with fail
   refine(im f.heap.size f _ u (iL L true i++sL L true i 3) 97 #[.pointer (some ⟨p,0,none⟩),.pointer (some ⟨lb,0,none⟩),.pointer (some ⟨t,0,none⟩)] L i 3 r true H.out (a4.out 3 oO) a1 (λargs W=>by go_simp) (λW l j m=>by rw[jQ];exact cv.out W ((bo.out.trans l)) j 0 m oO) (λW l j m=>by rw[jQ];exact cv.out W ((bo.out.trans l)) j 1 m oO)).mono ?_;rintro e b2 ⟨rfl,D,n⟩;have d6:Hid (BP f.heap.size f b2 u (iL L true i++sL L true i 4)):=by show BP _ _ _ _ _;rw[a5.out 3];exact D
   have d7:Hid (aO o b2):=bo.out.trans n;clear D n;have d8:Hid (iL L true (i+1)=iL L true i++sL L true i 4):=pj L true i;go_wp2;exact⟨⟨i+1,by omega,by go_num,by rw[d8.out];exact d6.out,P.out.trans d7.out⟩,by simp[intOf];omega⟩
  ·obtain rfl:i=L:=oO;obtain⟨A,c6,b3,b4⟩:=G.out.1.X;have C:wr.cell? ⟨u,0,none⟩=some (.slice A (iL i true i).length c6):=b3.cell 0 _ rfl;have d9:=Lib.hid b4;have ea:=Lib.hid G.out.1.B;clear b3 b4;go_wp2;go_ret;exact⟨_,rfl,(ee.bU d9.out).mono ch.out.size,ab ch.out ea.out⟩
theorem D7 (L:Nat) (w:World) (J:L<=32):Calls Tryz.prog 46 #[cy L false] w λe w'=>∃v,e= .returned v/\ee w.heap.size w' v (bR L false)/\Below w.heap.size w w':=by
 obtain⟨c2,c3,c7,c8,c9⟩:=info_parts nJ;have K:=ep w L false;have dl:Hid (∀W,Calls Tryz.prog 92 #[cy L false] W λe w'=>∃hb x,e= .returned (.func (Fn.func 138) #[] #[.pointer (some ⟨hb,0,none⟩),.pointer (some ⟨x,0,none⟩)])/\(false=false->HC L w' hb x)/\Below W.heap.size W w'):=λW=>qp L false W J;have b5:Hid (∀W,Calls Tryz.prog 85 #[cy L false] W λe w'=>e= .returned (.int .i64 ((ax L false:Nat):Int))/\Below W.heap.size W w'):=λW=>qh L false W J;have b6:Hid (∀W,Calls Tryz.prog 89 #[cy L false] W λe w'=>e= .returned (.int .i64 ((dY L false:Nat):Int))/\Below W.heap.size W w'):=λW=>tg L false W J;have U:Hid (L<=32):=J;have dm:=Lib.hid (fX (c:=false) J);have dn:=Lib.hid (room_le (c:=false) J);obtain⟨bq,bs⟩:=dm.out;have cx:=dn.out;obtain⟨M,b7⟩:∃M,M=ax L false-1:=⟨_,rfl⟩;have co:((ax L false:Nat):Int)-1=(M:Int):=oO;have ds:=Lib.hid b7;have eh:M<=141:=oO;obtain⟨R,G⟩:∃R,R=dY L false:=⟨_,rfl⟩;rw[<-G]at b6 cx;clear b7 G;obtain⟨B,hB⟩:∃B,B=ax L false:=⟨_,rfl⟩;rw[<-hB]at b5 bq bs co;clear hB;obtain⟨ad,N⟩:∃ad,ad=w.alloc (bM L false):=⟨_,rfl⟩;have dx:Hid (Below w.heap.size w ad):=by show Below _ _ _;rw[N];exact ar _ _
 have V:Hid (aa ad w.heap.size #[.int .i64 L,.bool false] 60):=by show aa _ _ _ _;rw[N];exact aa.new _ _ _ _ oS
 rw[<-N]at K;obtain⟨D,F⟩:=K.out _ (Below.refl _ _);rw[N]at D F;have dy:∀(W:World) (a:Addr) (g:Fn) (b c:Array Value),(store a (.func g b c)).run Tryz.prog W=stored Tryz.prog W a (.func g b c) .plain:=λW a g b c=>run_store _ W a _ _ rfl;go_enter Tryz.func46,Tryz.ntmps46
 go_wp2_with(first
  |(go_at_call 92;refine(dl.out _).mono ?_;rintro e w1 ⟨hb,x,rfl,b8,a9⟩;rw[<-N]at a9;have z:=Lib.hid a9;have b9:=Lib.hid b8;clear a9 b8 D F;obtain⟨D,F⟩:=K.out _ z.out;have a6:w.heap.size<w1.heap.size:=aw (V.out.below z.out))
  |(go_at_call 85;refine(b5.out _).mono ?_;rintro e w2 ⟨rfl,ca⟩;have C:=Lib.hid ca;clear ca D F;obtain⟨D,F⟩:=K.out _ (ab (ae z.out _) C.out);have c4:w.heap.size<w2.heap.size:=aw (V.out.below (ab (ae z.out _) C.out)))
  |(go_at_call 89;refine(b6.out _).mono ?_;rintro e f ⟨rfl,cb⟩;have H:=Lib.hid cb;clear cb D F;obtain⟨D,F⟩:=K.out _ (ab (ae (ab (ae z.out _) C.out) _) H.out);have s3:w.heap.size<f.heap.size:=aw (V.out.below (ab (ae (ab (ae z.out _) C.out) _) H.out)))
  |(at_make;refine wpList_make_own _ rfl _ _ _ rfl f.heap.size 47 c2 _ 2 Tryz.underlying40 c3 c7 c8 .i64 .i64 _ R rfl rfl (by first|rfl|omega) (by rw[c9];omega) oM (Nat.le_refl _) ?_;intro al cp hg;have d0:=Lib.hid cp;have av:Hid (Below f.heap.size f al):=(Below.refl _ _).grown hg (Nat.le_refl _) (λq hq=>by cases hq);clear cp hg D F;obtain⟨D,F⟩:=K.out _ (ab (ab (ae (ab (ae z.out _) C.out) _) H.out) av.out);have c5:w.heap.size<al.heap.size:=aw (V.out.below (ab (ab (ae (ab (ae z.out _) C.out) _) H.out) av.out))))
 obtain⟨y,X⟩:∃y,y=al.alloc (.cells #[.slice (some ⟨f.heap.size,0,none⟩) 0 R] 40):=⟨_,rfl⟩;obtain⟨u,a0⟩:∃u,u=al.heap.size:=⟨_,rfl⟩;have O:Hid (Below f.heap.size f y):=by show Below _ _ _;rw[X];exact ae av.out _
 obtain⟨p,bb⟩:∃p,p=w1.heap.size:=⟨_,rfl⟩;obtain⟨lb,bd⟩:∃lb,lb=w2.heap.size:=⟨_,rfl⟩;have ce:aa (w1.alloc (.cells #[.func (Fn.func 138) #[] #[.pointer (some ⟨hb,0,none⟩),.pointer (some ⟨x,0,none⟩)]] 77)) w1.heap.size #[.func (Fn.func 138) #[] #[.pointer (some ⟨hb,0,none⟩),.pointer (some ⟨x,0,none⟩)]] 77:=aa.new _ _ _ _ oS;have cg:aa (w2.alloc (.cells #[.int .i64 (M:Int)] 3)) w2.heap.size #[.int .i64 (M:Int)] 3:=aa.new _ _ _ _ oS;have Y:Below w2.heap.size w2 f:=cN H.out;have d1:Hid (lp L false p lb hb x y):=by
  show lp _ _ _ _ _ _ _;refine⟨?_,?_,λe=>?_⟩
  ·rw[bb];exact((ce.below C.out).below Y).below O.out
  ·rw[bd,<-ds.out];exact(cg.below H.out).below O.out
  ·have bt:Below w1.heap.size w1 y:=ab (ab (cN C.out) Y) O.out;have bv:HC L w1 hb x:=by first|exact b9.out e|exact b9.out trivial|cases e
   exact⟨bv.1.below bt,bv.2.below bt⟩
 have ch:Hid (Below w.heap.size w f):=ab dx.out (ab z.out (ab (cN C.out) Y));have be:Hid (aa y w.heap.size #[.int .i64 L,.bool false] 60):=((((V.out.below z.out).below (cN C.out)).below Y)).below O.out;have ci:Hid (BP f.heap.size f y u (iL L false 0)):=by
  show BP _ _ _ _ _;refine⟨O.out,⟨some ⟨f.heap.size,0,none⟩,R,?_,?_⟩,?_,?_⟩
  ·show aa _ _ #[.slice (some ⟨f.heap.size,0,none⟩) 0 R] _;rw[X,a0];exact aa.new _ _ _ _ oS
  ·show World.ownsRow _ _ _ _ (.slice (some ⟨f.heap.size,0,none⟩) 0 R) 0 [];rw[X];exact ah d0.out (ar _ _)
  ·rw[a0];exact av.out.size
  ·exact O.out.size
 have am:y.cell? ⟨w.heap.size,0,none⟩=some (.int .i64 L):=be.out.cell 0 _ rfl;rw[<-X,<-a0,<-bb,<-bd];have P:Hid (aO y y):=aO.refl _;clear a6 c4 s3 c5 dy X a0 bb bd ce cg Y D F N co cx bq bs;go_wp2;clear am;go_loopw [23] (λa7 wr=>∃i:Nat,i<=L/\a7= .int .i64 i/\Hid (BP f.heap.size f wr u (iL L false i)/\aO y wr)) (λa7 _=>L-(intOf a7).toNat)
 case atStart=>exact⟨0,Nat.zero_le _,rfl,ci.out,P.out⟩
 case round=>
  clear ci P;obtain⟨i,ed,rfl,G⟩:=hrel;by_cases d2:i<L
  ·obtain⟨d,bx⟩:∃d,d=L-i:=⟨_,rfl⟩;have d3:(L:Int)-(i:Int)=(d:Int):=oO;obtain⟨r,ap⟩:∃r,r=rN L false i:=⟨_,rfl⟩;have a1:r<=140:=by rw[ap];exact xS J
   have Q:=Lib.hid ap;have d4:4* (d:Int)+12=(r:Int):=by have a8:=I4 L false i;simp at a8;rw[ap,a8,bx];omega
   have ef:d<=32:=oO;obtain⟨o,Z⟩:∃o,o=wr.alloc (.cells #[.int .i64 (i:Int)] 3):=⟨_,rfl⟩;obtain⟨t,S⟩:∃t,t=wr.heap.size:=⟨_,rfl⟩;have ck:Hid (Below wr.heap.size wr o):=by show Below _ _ _;rw[Z];exact ar _ _
   have ac:Hid (aa o t #[.int .i64 (i:Int)] 3):=by show aa _ _ _ _;rw[Z,S];exact aa.new _ _ _ _ oS
   have P:Hid (aO y o):=G.out.2.trans (aO.below ck.out);have d5:Hid (BP f.heap.size f o u (iL L false i++sL L false i 0)):=by show BP _ _ _ _ _;rw[show sL L false i 0=[]from rfl,List.append_nil];exact G.out.1.below ck.out
   have a2:Hid (lp L false p lb hb x o):=d1.out.cZ P.out;have am:o.cell? ⟨w.heap.size,0,none⟩=some (.int .i64 L):=(be.out.gR P.out rfl).cell 0 _ rfl;have T:o.cell? ⟨t,0,none⟩=some (.int .i64 (i:Int)):=ac.out.cell 0 _ rfl;have a3:=Lib.hid d2;have a6:w.heap.size<wr.heap.size:=aw (be.out.gR G.out.2 rfl);rw[Z]at am T;rw[S]at T;clear bx ap;have cq:Hid (∀W,aO o W->∀j k,j<r->k<2->Calls Tryz.prog 94 #[.int .i64 ((j:Nat):Int),.int .i64 ((k:Nat):Int),.pointer (some ⟨p,0,none⟩),.pointer (some ⟨t,0,none⟩)] W λe w'=>e= .returned (.agg #[.int .i64 (((bZ L false i 0 j k).1:Nat):Int),.int .i64 (((bZ L false i 0 j k).2:Nat):Int)])/\Below W.heap.size W w'):=by
    show∀W,_;intro W l j k m n;exact C5 L false p lb t hb x i j k W U.out a3.out (by rw[<-Q.out];exact m) n (a2.out.cZ l) (ac.out.gR l rfl)
   have cr:Hid (∀W,aO o W->∀j k,j<r->k<2->Calls Tryz.prog 95 #[.int .i64 ((j:Nat):Int),.int .i64 ((k:Nat):Int),.pointer (some ⟨p,0,none⟩),.pointer (some ⟨t,0,none⟩),.pointer (some ⟨lb,0,none⟩)] W λe w'=>e= .returned (.agg #[.int .i64 (((bZ L false i 1 j k).1:Nat):Int),.int .i64 (((bZ L false i 1 j k).2:Nat):Int)])/\Below W.heap.size W w'):=by
    show∀W,_;intro W l j k m n;exact CJ L false p lb t hb x i j k W U.out a3.out (by rw[<-Q.out];exact m) n (a2.out.cZ l) (ac.out.gR l rfl)
   have cs:Hid (∀W,aO o W->∀j k,j<r->k<2->Calls Tryz.prog 96 #[.int .i64 ((j:Nat):Int),.int .i64 ((k:Nat):Int),.pointer (some ⟨p,0,none⟩),.pointer (some ⟨lb,0,none⟩),.pointer (some ⟨t,0,none⟩)] W λe w'=>e= .returned (.agg #[.int .i64 (((bZ L false i 2 j k).1:Nat):Int),.int .i64 (((bZ L false i 2 j k).2:Nat):Int)])/\Below W.heap.size W w'):=by
    show∀W,_;intro W l j k m n;exact CI L false p lb t hb x i j k W U.out a3.out (by rw[<-Q.out];exact m) n (a2.out.cZ l) (ac.out.gR l rfl)
   have cv:Hid (∀W,aO o W->∀j k,j<r->k<2->Calls Tryz.prog 97 #[.int .i64 ((j:Nat):Int),.int .i64 ((k:Nat):Int),.pointer (some ⟨p,0,none⟩),.pointer (some ⟨lb,0,none⟩),.pointer (some ⟨t,0,none⟩)] W λe w'=>e= .returned (.agg #[.int .i64 (((bZ L false i 3 j k).1:Nat):Int),.int .i64 (((bZ L false i 3 j k).2:Nat):Int)])/\Below W.heap.size W w'):=by
    show∀W,_;intro W l j k m n;exact CR L false p lb t hb x i j k W U.out a3.out (by rw[<-Q.out];exact m) n (a2.out.cZ l) (ac.out.gR l rfl)
   have a4:Hid (∀s,s<=4->(iL L false i++sL L false i s).length<=60000):=by
    show∀s,_;intro s hs;rw[List.length_append,j1];have a8:=xM (c:=false) U.out i;have ec:s* (2* rN L false i)<=4* (2* 140):=Nat.mul_le_mul hs (by rw[<-Q.out];omega);omega
   have a5:Hid (∀s,iL L false i++sL L false i (s+1)=iL L false i++sL L false i s++jL L false i s r):=by
    show∀s,_;intro s;rw[r4,<-Q.out,List.append_assoc]
   rw[<-S]at T;rw[S]at T;go_wp2_with fail
   rw[<-Z,<-S];clear a6 am T d4 d3 Z S;refine(im f.heap.size f _ u (iL L false i++sL L false i 0) 94 #[.pointer (some ⟨p,0,none⟩),.pointer (some ⟨t,0,none⟩)] L i 0 r false d5.out (a4.out 0 oO) a1 (λargs W=>by go_simp) (λW l j m=>by rw[xP];exact cq.out W (l) j 0 m oO) (λW l j m=>by rw[xP];exact cq.out W (l) j 1 m oO)).mono ?_;rintro e v0 ⟨rfl,E,n⟩;have z:Hid (BP f.heap.size f v0 u (iL L false i++sL L false i 1)):=by show BP _ _ _ _ _;rw[a5.out 0];exact E
   have bf:Hid (aO o v0):=n;clear E n;go_wp2_with fail
   refine(im f.heap.size f _ u (iL L false i++sL L false i 1) 95 #[.pointer (some ⟨p,0,none⟩),.pointer (some ⟨t,0,none⟩),.pointer (some ⟨lb,0,none⟩)] L i 1 r false z.out (a4.out 1 oO) a1 (λargs W=>by go_simp) (λW l j m=>by rw[jQ];exact cr.out W ((bf.out.trans l)) j 0 m oO) (λW l j m=>by rw[jQ];exact cr.out W ((bf.out.trans l)) j 1 m oO)).mono ?_;rintro e v1 ⟨rfl,E,n⟩;have C:Hid (BP f.heap.size f v1 u (iL L false i++sL L false i 2)):=by show BP _ _ _ _ _;rw[a5.out 1];exact E
   have bi:Hid (aO o v1):=bf.out.trans n;clear E n;go_wp2_with fail
   refine(im f.heap.size f _ u (iL L false i++sL L false i 2) 96 #[.pointer (some ⟨p,0,none⟩),.pointer (some ⟨lb,0,none⟩),.pointer (some ⟨t,0,none⟩)] L i 2 r false C.out (a4.out 2 oO) a1 (λargs W=>by go_simp) (λW l j m=>by rw[jQ];exact cs.out W ((bi.out.trans l)) j 0 m oO) (λW l j m=>by rw[jQ];exact cs.out W ((bi.out.trans l)) j 1 m oO)).mono ?_;rintro e b1 ⟨rfl,E,n⟩;have H:Hid (BP f.heap.size f b1 u (iL L false i++sL L false i 3)):=by show BP _ _ _ _ _;rw[a5.out 2];exact E
   have bo:Hid (aO o b1):=bi.out.trans n;clear E n;go_wp2_with fail
   refine(im f.heap.size f _ u (iL L false i++sL L false i 3) 97 #[.pointer (some ⟨p,0,none⟩),.pointer (some ⟨lb,0,none⟩),.pointer (some ⟨t,0,none⟩)] L i 3 r false H.out (a4.out 3 oO) a1 (λargs W=>by go_simp) (λW l j m=>by rw[jQ];exact cv.out W ((bo.out.trans l)) j 0 m oO) (λW l j m=>by rw[jQ];exact cv.out W ((bo.out.trans l)) j 1 m oO)).mono ?_;rintro e b2 ⟨rfl,E,n⟩;have d6:Hid (BP f.heap.size f b2 u (iL L false i++sL L false i 4)):=by show BP _ _ _ _ _;rw[a5.out 3];exact E
   have d7:Hid (aO o b2):=bo.out.trans n;clear E n;have d8:Hid (iL L false (i+1)=iL L false i++sL L false i 4):=pj L false i;go_wp2;exact⟨⟨i+1,by omega,by go_num,by rw[d8.out];exact d6.out,P.out.trans d7.out⟩,by simp[intOf];omega⟩
  ·obtain rfl:i=L:=oO;obtain⟨A,c6,b3,b4⟩:=G.out.1.X;have D:wr.cell? ⟨u,0,none⟩=some (.slice A (iL i false i).length c6):=b3.cell 0 _ rfl;have d9:=Lib.hid b4;have ea:=Lib.hid G.out.1.B;clear b3 b4;go_wp2;go_ret;exact⟨_,rfl,(ee.bU d9.out).mono ch.out.size,ab ch.out ea.out⟩
theorem yG (L:Nat) (c:Bool) (w:World) (a:L<=32):Calls Tryz.prog 46 #[cy L c] w λe w'=>∃v,e= .returned v/\ee w.heap.size w' v (bR L c)/\Below w.heap.size w w':=by
 cases c with
 |true=>exact Ej L w a
 |false=>exact D7 L w a
end
end Go.Proofs.YtmnlkganmgcpbaaGreatDoor
