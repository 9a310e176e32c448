import Derived.Test.YtmnlkganmgcpbaaGreatDoorQd16
set_option maxRecDepth 100000
set_option maxHeartbeats 4000000
set_option linter.unusedVariables false
set_option linter.unusedSectionVars false
set_option linter.unusedSimpArgs false
namespace Go.Proofs.YtmnlkganmgcpbaaGreatDoor
section
open Go.RowKit
theorem aa.fk {w:World} {g:Nat} {u:Value} {t:TypeId} (h:aa w g #[u] t) (v:Value):aa (w.setCell ⟨g,0,none⟩ v) g #[v] t:=heap_setCell_same w g 0 #[u] t v h
theorem aa.cg {w:World} {g:Nat} {a:Array Value} {t:TypeId} (h:aa w g a t) (p:Addr) (v:Value) (b:g≠p.block):aa (w.setCell p v) g a t:=(Below.heap_setCell _ _ _ _ b).trans h
theorem xY (L:Nat) (w:World) (b8:L<=32):Calls Tryz.prog 92 #[aP L false] w λe w'=>∃hb ih,e= .returned (.func (Fn.func 138) #[] #[.pointer (some ⟨hb,0,none⟩),.pointer (some ⟨ih,0,none⟩)])/\HC L w' hb ih/\Below w.heap.size w w':=by
 have j:=eP w L false;have n:Hid (∀W,Calls Tryz.prog 36 #[aP L false] W λe w'=>e= .returned (.int .i64 ((ai L false:Nat):Int))/\Below W.heap.size W w'):=λW=>jX L false W b8;have i:Hid (∀W,Calls Tryz.prog 85 #[aP L false] W λe w'=>e= .returned (.int .i64 ((aC L false:Nat):Int))/\Below W.heap.size W w'):=λW=>q9 L false W b8;have rf:=Lib.hid (jK (c:=false) b8);have rg:=Lib.hid (gf (c:=false) b8);unfold HC aT;generalize aC L false=B at*;generalize ai L false=S at*;obtain⟨wt,ww⟩:=rf.out;obtain⟨wx,wy⟩:=rg.out;obtain⟨f,i3⟩:∃f,f=B/2:=⟨_,rfl⟩;obtain⟨t,ii⟩:∃t,t=(S-1)/2:=⟨_,rfl⟩;rw[<-i3,<-ii];have e1:(B:Int)/2=(f:Int):=oO;obtain⟨b9,rl⟩:∃b9,b9=S-1:=⟨_,rfl⟩;have wz:IntKind.i64.wrap ((S:Int)-1)=(b9:Int):=by rw[aG _ oO oO];omega
 have e4:(b9:Int)/2=(t:Int):=oO;have wA:IntKind.i64.wrap (t:Int)=(t:Int):=aG _ oO oO;have wG:IntKind.i64.wrap (f:Int)=(f:Int):=aG _ oO oO;have wI:f<=200:=oO;have wL:t<=200:=oO;clear i3 ii rl;obtain⟨a,ab⟩:∃a,a=w.alloc (bE L false):=⟨_,rfl⟩;have q:Hid (Below w.heap.size w a):=by show Below _ _ _;rw[ab];exact ax _ _
 rw[<-ab]at j;have V:Hid (af a a.drew):=aj (Below.refl _ _);obtain⟨io,ip⟩:=j.out _ (Below.refl _ _);rw[ab]at io ip;go_enter Tryz.func92,Tryz.ntmps92;go_wp2;rw[<-ab];clear io ip ab;refine uW (S:=af a) (.br [(false,0),(false,4)] [1,7,8] (λk=>if k=1 then .br [(false,2),(false,3)] [5,7,8] (λk=>if k=5 then .br [(false,6)] [7,8] (λk=>if k=7 then .last [(true,8),(true,9),(true,10)]else .last [(true,7),(true,9),(true,10)])else if k=7 then .br [] [5,8] (λk=>if k=5 then .last [(false,6),(true,8),(true,9),(true,10)]else .last [(true,5),(false,6),(true,9),(true,10)])else .br [] [5,7] (λk=>if k=5 then .last [(false,6),(true,7),(true,9),(true,10)]else .last [(true,5),(false,6),(true,9),(true,10)]))else if k=7 then .br [] [1,8] (λk=>if k=1 then .br [(false,2),(false,3)] [5,8] (λk=>if k=5 then .last [(false,6),(true,8),(true,9),(true,10)]else .last [(true,5),(false,6),(true,9),(true,10)])else .last [(true,1),(false,2),(false,3),(true,5),(false,6),(true,9),(true,10)])else .br [] [1,7] (λk=>if k=1 then .br [(false,2),(false,3)] [5,7] (λk=>if k=5 then .last [(false,6),(true,7),(true,9),(true,10)]else .last [(true,5),(false,6),(true,9),(true,10)])else .last [(true,1),(false,2),(false,3),(true,5),(false,6),(true,9),(true,10)]))) oK oK V.out ?_;simp only[reduceIte,Nat.reduceEqDiff,wpTree,attachW,List.getElem?_cons_zero,List.getElem?_cons_succ]
 repeat refine zO j.out ?_
 refine ag ?_;intro k g;simp only[List.mem_cons,List.not_mem_nil,or_false]at g;rcases g with rfl|rfl|rfl
 ·simp only[reduceIte,Nat.reduceEqDiff,wpTree,attachW,List.getElem?_cons_zero,List.getElem?_cons_succ];refine zZ ?_;refine(n.out _).mono ?_;rintro e r ⟨rfl,hb⟩;have X:Hid (af a r):=ae V.out hb;clear hb;refine⟨_,rfl,X.out,jO ?_⟩;refine ag ?_
  (try simp only[reduceIte,Nat.reduceEqDiff,wpTree,attachW,List.getElem?_cons_zero,List.getElem?_cons_succ])
  repeat refine zO j.out ?_
  refine ag ?_;intro k g;simp only[List.mem_cons,List.not_mem_nil,or_false]at g;rcases g with rfl|rfl|rfl
  ·simp only[reduceIte,Nat.reduceEqDiff,wpTree,attachW,List.getElem?_cons_zero,List.getElem?_cons_succ];refine zZ ?_;refine(i.out _).mono ?_;rintro e s ⟨rfl,hb⟩;have ac:Hid (af a s):=ae X.out hb;clear hb;refine⟨_,rfl,ac.out,jO ?_⟩;refine ag ?_
   (try simp only[reduceIte,Nat.reduceEqDiff,wpTree,attachW,List.getElem?_cons_zero,List.getElem?_cons_succ])
   repeat refine zO j.out ?_
   refine ag ?_;intro k g;simp only[List.mem_cons,List.not_mem_nil,or_false]at g;rcases g with rfl|rfl
   ·simp only[reduceIte,Nat.reduceEqDiff,wpTree,attachW,List.getElem?_cons_zero,List.getElem?_cons_succ];obtain⟨u,ce⟩:∃d,d=s.alloc (.cells #[.int .i64 0] 3):=⟨_,rfl⟩;obtain⟨x,fr⟩:∃b,b=s.heap.size:=⟨_,rfl⟩;have ro:Hid (Below s.heap.size s u):=by show Below _ _ _;rw[ce];exact ax _ _
    have fv:Hid (af a u):=ae ac.out ro.out;have it:Hid (aa u x #[.int .i64 0] 3/\a.heap.size<=x):=by show _/\_;rw[ce,fr];exact⟨aa.new _ _ _ _ oS,ac.out.size⟩
    have me:=Lib.hid it.out.1;have sn:=Lib.hid it.out.2;refine' zQ (v:= .pointer (some ⟨x,0,none⟩)) (w':=u) rfl (by rw[fr,ce];go_simp) fv.out ?_;clear ce fr;refine ag ?_
    (try simp only[reduceIte,Nat.reduceEqDiff,wpTree,attachW,List.getElem?_cons_zero,List.getElem?_cons_succ])
    obtain⟨Y,ch⟩:∃d,d=u.alloc (.cells #[.int .i64 0] 3):=⟨_,rfl⟩;obtain⟨y,ci⟩:∃b,b=u.heap.size:=⟨_,rfl⟩;have i4:Hid (Below u.heap.size u Y):=by show Below _ _ _;rw[ch];exact ax _ _
    have i5:Hid (af a Y):=ae fv.out i4.out;have iv:Hid (aa Y y #[.int .i64 0] 3/\a.heap.size<=y):=by show _/\_;rw[ch,ci];exact⟨aa.new _ _ _ _ oS,fv.out.size⟩
    have ix:Hid (x≠y):=by show _≠_;rw[ci];exact Nat.ne_of_lt (au me.out)
    have gc:=Lib.hid (me.out.below i4.out);have r0:=Lib.hid iv.out.1;have sp:=Lib.hid iv.out.2;refine' zQ (v:= .pointer (some ⟨y,0,none⟩)) (w':=Y) rfl (by rw[ci,ch];go_simp) i5.out ?_;clear ch ci;obtain⟨ca,ad⟩:∃d,d=Y.setCell ⟨x,0,none⟩ (.int .i64 (t:Int)):=⟨_,rfl⟩;have i6:Hid (af a ca):=by show Below _ _ _;rw[ad];exact i5.out.setCell (by exact sn.out) _
    have r1:Hid (aa ca x #[.int .i64 (t:Int)] 3):=by show aa _ _ _ _;rw[ad];exact gc.out.fk _
    have dn:=Lib.hid (r0.out.cg ⟨x,0,none⟩ (.int .i64 (t:Int)) (ix.out.symm));rw[<-ad]at dn;refine' ba (w':=ca) rfl (by rw[ad];exact bJ rfl ⟨x,0,none⟩ t rfl rfl (gc.out.cell 0 _ rfl) (frozen_of_row _ _ _ _ _ gc.out)) i6.out ?_;simp only[yQ,yU,yX,yY];clear ad;obtain⟨fo,al⟩:∃d,d=ca.setCell ⟨y,0,none⟩ (.int .i64 (f:Int)):=⟨_,rfl⟩;have i7:Hid (af a fo):=by show Below _ _ _;rw[al];exact i6.out.setCell (by exact sp.out) _
    have r2:Hid (aa fo y #[.int .i64 (f:Int)] 3):=by show aa _ _ _ _;rw[al];exact dn.out.fk _
    have mk:=Lib.hid (r1.out.cg ⟨y,0,none⟩ (.int .i64 (f:Int)) (ix.out));rw[<-al]at mk;refine' ba (w':=fo) rfl (by rw[al];exact bJ rfl ⟨y,0,none⟩ f rfl rfl (dn.out.cell 0 _ rfl) (frozen_of_row _ _ _ _ _ dn.out)) i7.out ?_;simp only[yQ,yU,yX,yY];clear al;refine ag ?_;clear i n;go_wp2;go_ret;exact⟨_,_,rfl,⟨r2.out,mk.out⟩,ae q.out i7.out⟩
   ·simp only[reduceIte,Nat.reduceEqDiff,wpTree,attachW,List.getElem?_cons_zero,List.getElem?_cons_succ];obtain⟨z,ck⟩:∃d,d=s.alloc (.cells #[.int .i64 0] 3):=⟨_,rfl⟩;obtain⟨A,fx⟩:∃b,b=s.heap.size:=⟨_,rfl⟩;have rs:Hid (Below s.heap.size s z):=by show Below _ _ _;rw[ck];exact ax _ _
    have fz:Hid (af a z):=ae ac.out rs.out;have i0:Hid (aa z A #[.int .i64 0] 3/\a.heap.size<=A):=by show _/\_;rw[ck,fx];exact⟨aa.new _ _ _ _ oS,ac.out.size⟩
    have ml:=Lib.hid i0.out.1;have st:=Lib.hid i0.out.2;refine' zQ (v:= .pointer (some ⟨A,0,none⟩)) (w':=z) rfl (by rw[fx,ck];go_simp) fz.out ?_;clear ck fx;refine ag ?_
    (try simp only[reduceIte,Nat.reduceEqDiff,wpTree,attachW,List.getElem?_cons_zero,List.getElem?_cons_succ])
    obtain⟨Z,co⟩:∃d,d=z.alloc (.cells #[.int .i64 0] 3):=⟨_,rfl⟩;obtain⟨C,cp⟩:∃b,b=z.heap.size:=⟨_,rfl⟩;have i8:Hid (Below z.heap.size z Z):=by show Below _ _ _;rw[co];exact ax _ _
    have i9:Hid (af a Z):=ae fz.out i8.out;have i1:Hid (aa Z C #[.int .i64 0] 3/\a.heap.size<=C):=by show _/\_;rw[co,cp];exact⟨aa.new _ _ _ _ oS,fz.out.size⟩
    have i2:Hid (A≠C):=by show _≠_;rw[cp];exact Nat.ne_of_lt (au ml.out)
    have r3:=Lib.hid (ml.out.below i8.out);have ge:=Lib.hid i1.out.1;have sv:=Lib.hid i1.out.2;refine' zQ (v:= .pointer (some ⟨C,0,none⟩)) (w':=Z) rfl (by rw[cp,co];go_simp) i9.out ?_;clear co cp;obtain⟨cb,am⟩:∃d,d=Z.setCell ⟨C,0,none⟩ (.int .i64 (t:Int)):=⟨_,rfl⟩;have jp:Hid (af a cb):=by show Below _ _ _;rw[am];exact i9.out.setCell (by exact sv.out) _
    have r4:Hid (aa cb C #[.int .i64 (t:Int)] 3):=by show aa _ _ _ _;rw[am];exact ge.out.fk _
    have ds:=Lib.hid (r3.out.cg ⟨C,0,none⟩ (.int .i64 (t:Int)) (i2.out.symm.symm));rw[<-am]at ds;refine' ba (w':=cb) rfl (by rw[am];exact bJ rfl ⟨C,0,none⟩ t rfl rfl (ge.out.cell 0 _ rfl) (frozen_of_row _ _ _ _ _ ge.out)) jp.out ?_;simp only[yQ,yU,yX,yY];clear am;obtain⟨f0,a8⟩:∃d,d=cb.setCell ⟨A,0,none⟩ (.int .i64 (f:Int)):=⟨_,rfl⟩;have mm:Hid (af a f0):=by show Below _ _ _;rw[a8];exact jp.out.setCell (by exact st.out) _
    have sy:Hid (aa f0 A #[.int .i64 (f:Int)] 3):=by show aa _ _ _ _;rw[a8];exact ds.out.fk _
    have p0:=Lib.hid (r4.out.cg ⟨A,0,none⟩ (.int .i64 (f:Int)) (i2.out.symm));rw[<-a8]at p0;refine' ba (w':=f0) rfl (by rw[a8];exact bJ rfl ⟨A,0,none⟩ f rfl rfl (ds.out.cell 0 _ rfl) (frozen_of_row _ _ _ _ _ ds.out)) mm.out ?_;simp only[yQ,yU,yX,yY];clear a8;refine ag ?_;clear i n;go_wp2;go_ret;exact⟨_,_,rfl,⟨sy.out,p0.out⟩,ae q.out mm.out⟩
  ·simp only[reduceIte,Nat.reduceEqDiff,wpTree,attachW,List.getElem?_cons_zero,List.getElem?_cons_succ];obtain⟨D,dv⟩:∃d,d=r.alloc (.cells #[.int .i64 0] 3):=⟨_,rfl⟩;obtain⟨o,gg⟩:∃b,b=r.heap.size:=⟨_,rfl⟩;have r5:Hid (Below r.heap.size r D):=by show Below _ _ _;rw[dv];exact ax _ _
   have dx:Hid (af a D):=ae X.out r5.out;have jr:Hid (aa D o #[.int .i64 0] 3/\a.heap.size<=o):=by show _/\_;rw[dv,gg];exact⟨aa.new _ _ _ _ oS,X.out.size⟩
   have gw:=Lib.hid jr.out.1;have rc:=Lib.hid jr.out.2;refine' zQ (v:= .pointer (some ⟨o,0,none⟩)) (w':=D) rfl (by rw[gg,dv];go_simp) dx.out ?_;clear dv gg;refine ag ?_
   (try simp only[reduceIte,Nat.reduceEqDiff,wpTree,attachW,List.getElem?_cons_zero,List.getElem?_cons_succ])
   refine ag ?_;intro k g;simp only[List.mem_cons,List.not_mem_nil,or_false]at g;rcases g with rfl|rfl
   ·simp only[reduceIte,Nat.reduceEqDiff,wpTree,attachW,List.getElem?_cons_zero,List.getElem?_cons_succ];refine zZ ?_;refine(i.out _).mono ?_;rintro e ap ⟨rfl,hb⟩;have gi:Hid (af a ap):=ae dx.out hb;have p3:=Lib.hid (gw.out.below hb);clear hb;refine⟨_,rfl,gi.out,jO ?_⟩;refine ag ?_
    (try simp only[reduceIte,Nat.reduceEqDiff,wpTree,attachW,List.getElem?_cons_zero,List.getElem?_cons_succ])
    repeat refine zO j.out ?_
    obtain⟨av,dy⟩:∃d,d=ap.alloc (.cells #[.int .i64 0] 3):=⟨_,rfl⟩;obtain⟨E,dz⟩:∃b,b=ap.heap.size:=⟨_,rfl⟩;have mo:Hid (Below ap.heap.size ap av):=by show Below _ _ _;rw[dy];exact ax _ _
    have mp:Hid (af a av):=ae gi.out mo.out;have j0:Hid (aa av E #[.int .i64 0] 3/\a.heap.size<=E):=by show _/\_;rw[dy,dz];exact⟨aa.new _ _ _ _ oS,gi.out.size⟩
    have kc:Hid (o≠E):=by show _≠_;rw[dz];exact Nat.ne_of_lt (au p3.out)
    have gx:=Lib.hid (p3.out.below mo.out);have s0:=Lib.hid j0.out.1;have wa:=Lib.hid j0.out.2;refine' zQ (v:= .pointer (some ⟨E,0,none⟩)) (w':=av) rfl (by rw[dz,dy];go_simp) mp.out ?_;clear dy dz;obtain⟨cq,a9⟩:∃d,d=av.setCell ⟨o,0,none⟩ (.int .i64 (t:Int)):=⟨_,rfl⟩;have ms:Hid (af a cq):=by show Below _ _ _;rw[a9];exact mp.out.setCell (by exact rc.out) _
    have s1:Hid (aa cq o #[.int .i64 (t:Int)] 3):=by show aa _ _ _ _;rw[a9];exact gx.out.fk _
    have ex:=Lib.hid (s0.out.cg ⟨o,0,none⟩ (.int .i64 (t:Int)) (kc.out.symm));rw[<-a9]at ex;refine' ba (w':=cq) rfl (by rw[a9];exact bJ rfl ⟨o,0,none⟩ t rfl rfl (gx.out.cell 0 _ rfl) (frozen_of_row _ _ _ _ _ gx.out)) ms.out ?_;simp only[yQ,yU,yX,yY];clear a9;obtain⟨f1,bb⟩:∃d,d=cq.setCell ⟨E,0,none⟩ (.int .i64 (f:Int)):=⟨_,rfl⟩;have mt:Hid (af a f1):=by show Below _ _ _;rw[bb];exact ms.out.setCell (by exact wa.out) _
    have s2:Hid (aa f1 E #[.int .i64 (f:Int)] 3):=by show aa _ _ _ _;rw[bb];exact ex.out.fk _
    have p4:=Lib.hid (s1.out.cg ⟨E,0,none⟩ (.int .i64 (f:Int)) (kc.out));rw[<-bb]at p4;refine' ba (w':=f1) rfl (by rw[bb];exact bJ rfl ⟨E,0,none⟩ f rfl rfl (ex.out.cell 0 _ rfl) (frozen_of_row _ _ _ _ _ ex.out)) mt.out ?_;simp only[yQ,yU,yX,yY];clear bb;refine ag ?_;clear i n;go_wp2;go_ret;exact⟨_,_,rfl,⟨s2.out,p4.out⟩,ae q.out mt.out⟩
   ·simp only[reduceIte,Nat.reduceEqDiff,wpTree,attachW,List.getElem?_cons_zero,List.getElem?_cons_succ];obtain⟨cs,dE⟩:∃d,d=D.alloc (.cells #[.int .i64 0] 3):=⟨_,rfl⟩;obtain⟨F,d0⟩:∃b,b=D.heap.size:=⟨_,rfl⟩;have m0:Hid (Below D.heap.size D cs):=by show Below _ _ _;rw[dE];exact ax _ _
    have m1:Hid (af a cs):=ae dx.out m0.out;have kd:Hid (aa cs F #[.int .i64 0] 3/\a.heap.size<=F):=by show _/\_;rw[dE,d0];exact⟨aa.new _ _ _ _ oS,dx.out.size⟩
    have ks:Hid (o≠F):=by show _≠_;rw[d0];exact Nat.ne_of_lt (au gw.out)
    have s4:=Lib.hid (gw.out.below m0.out);have ta:=Lib.hid kd.out.1;have wd:=Lib.hid kd.out.2;refine' zQ (v:= .pointer (some ⟨F,0,none⟩)) (w':=cs) rfl (by rw[d0,dE];go_simp) m1.out ?_;clear dE d0;refine ag ?_
    (try simp only[reduceIte,Nat.reduceEqDiff,wpTree,attachW,List.getElem?_cons_zero,List.getElem?_cons_succ])
    refine zZ ?_;refine(i.out _).mono ?_;rintro e kw ⟨rfl,hb⟩;have m2:Hid (af a kw):=ae m1.out hb;have gy:=Lib.hid (s4.out.below hb);have tb:=Lib.hid (ta.out.below hb);clear hb;refine⟨_,rfl,m2.out,jO ?_⟩
    repeat refine zO j.out ?_
    obtain⟨cv,bd⟩:∃d,d=kw.setCell ⟨o,0,none⟩ (.int .i64 (t:Int)):=⟨_,rfl⟩;have m3:Hid (af a cv):=by show Below _ _ _;rw[bd];exact m2.out.setCell (by exact rc.out) _
    have tg:Hid (aa cv o #[.int .i64 (t:Int)] 3):=by show aa _ _ _ _;rw[bd];exact gy.out.fk _
    have ey:=Lib.hid (tb.out.cg ⟨o,0,none⟩ (.int .i64 (t:Int)) (ks.out.symm));rw[<-bd]at ey;refine' ba (w':=cv) rfl (by rw[bd];exact bJ rfl ⟨o,0,none⟩ t rfl rfl (gy.out.cell 0 _ rfl) (frozen_of_row _ _ _ _ _ gy.out)) m3.out ?_;simp only[yQ,yU,yX,yY];clear bd;obtain⟨f2,be⟩:∃d,d=cv.setCell ⟨F,0,none⟩ (.int .i64 (f:Int)):=⟨_,rfl⟩;have m4:Hid (af a f2):=by show Below _ _ _;rw[be];exact m3.out.setCell (by exact wd.out) _
    have tl:Hid (aa f2 F #[.int .i64 (f:Int)] 3):=by show aa _ _ _ _;rw[be];exact ey.out.fk _
    have p5:=Lib.hid (tg.out.cg ⟨F,0,none⟩ (.int .i64 (f:Int)) (ks.out));rw[<-be]at p5;refine' ba (w':=f2) rfl (by rw[be];exact bJ rfl ⟨F,0,none⟩ f rfl rfl (ey.out.cell 0 _ rfl) (frozen_of_row _ _ _ _ _ ey.out)) m4.out ?_;simp only[yQ,yU,yX,yY];clear be;refine ag ?_;clear i n;go_wp2;go_ret;exact⟨_,_,rfl,⟨tl.out,p5.out⟩,ae q.out m4.out⟩
  ·simp only[reduceIte,Nat.reduceEqDiff,wpTree,attachW,List.getElem?_cons_zero,List.getElem?_cons_succ];obtain⟨G,d1⟩:∃d,d=r.alloc (.cells #[.int .i64 0] 3):=⟨_,rfl⟩;obtain⟨p,go⟩:∃b,b=r.heap.size:=⟨_,rfl⟩;have sb:Hid (Below r.heap.size r G):=by show Below _ _ _;rw[d1];exact ax _ _
   have d2:Hid (af a G):=ae X.out sb.out;have kz:Hid (aa G p #[.int .i64 0] 3/\a.heap.size<=p):=by show _/\_;rw[d1,go];exact⟨aa.new _ _ _ _ oS,X.out.size⟩
   have gz:=Lib.hid kz.out.1;have rd:=Lib.hid kz.out.2;refine' zQ (v:= .pointer (some ⟨p,0,none⟩)) (w':=G) rfl (by rw[go,d1];go_simp) d2.out ?_;clear d1 go;refine ag ?_
   (try simp only[reduceIte,Nat.reduceEqDiff,wpTree,attachW,List.getElem?_cons_zero,List.getElem?_cons_succ])
   refine ag ?_;intro k g;simp only[List.mem_cons,List.not_mem_nil,or_false]at g;rcases g with rfl|rfl
   ·simp only[reduceIte,Nat.reduceEqDiff,wpTree,attachW,List.getElem?_cons_zero,List.getElem?_cons_succ];refine zZ ?_;refine(i.out _).mono ?_;rintro e a0 ⟨rfl,hb⟩;have gp:Hid (af a a0):=ae d2.out hb;have p6:=Lib.hid (gz.out.below hb);clear hb;refine⟨_,rfl,gp.out,jO ?_⟩;refine ag ?_
    (try simp only[reduceIte,Nat.reduceEqDiff,wpTree,attachW,List.getElem?_cons_zero,List.getElem?_cons_succ])
    repeat refine zO j.out ?_
    obtain⟨a1,d3⟩:∃d,d=a0.alloc (.cells #[.int .i64 0] 3):=⟨_,rfl⟩;obtain⟨H,d4⟩:∃b,b=a0.heap.size:=⟨_,rfl⟩;have m5:Hid (Below a0.heap.size a0 a1):=by show Below _ _ _;rw[d3];exact ax _ _
    have m6:Hid (af a a1):=ae gp.out m5.out;have k0:Hid (aa a1 H #[.int .i64 0] 3/\a.heap.size<=H):=by show _/\_;rw[d3,d4];exact⟨aa.new _ _ _ _ oS,gp.out.size⟩
    have k1:Hid (p≠H):=by show _≠_;rw[d4];exact Nat.ne_of_lt (au p6.out)
    have tp:=Lib.hid (p6.out.below m5.out);have gC:=Lib.hid k0.out.1;have wf:=Lib.hid k0.out.2;refine' zQ (v:= .pointer (some ⟨H,0,none⟩)) (w':=a1) rfl (by rw[d4,d3];go_simp) m6.out ?_;clear d3 d4;obtain⟨cx,bf⟩:∃d,d=a1.setCell ⟨H,0,none⟩ (.int .i64 (t:Int)):=⟨_,rfl⟩;have m7:Hid (af a cx):=by show Below _ _ _;rw[bf];exact m6.out.setCell (by exact wf.out) _
    have tq:Hid (aa cx H #[.int .i64 (t:Int)] 3):=by show aa _ _ _ _;rw[bf];exact gC.out.fk _
    have ez:=Lib.hid (tp.out.cg ⟨H,0,none⟩ (.int .i64 (t:Int)) (k1.out.symm.symm));rw[<-bf]at ez;refine' ba (w':=cx) rfl (by rw[bf];exact bJ rfl ⟨H,0,none⟩ t rfl rfl (gC.out.cell 0 _ rfl) (frozen_of_row _ _ _ _ _ gC.out)) m7.out ?_;simp only[yQ,yU,yX,yY];clear bf;obtain⟨f3,bi⟩:∃d,d=cx.setCell ⟨p,0,none⟩ (.int .i64 (f:Int)):=⟨_,rfl⟩;have m8:Hid (af a f3):=by show Below _ _ _;rw[bi];exact m7.out.setCell (by exact rd.out) _
    have tr:Hid (aa f3 p #[.int .i64 (f:Int)] 3):=by show aa _ _ _ _;rw[bi];exact ez.out.fk _
    have qi:=Lib.hid (tq.out.cg ⟨p,0,none⟩ (.int .i64 (f:Int)) (k1.out.symm));rw[<-bi]at qi;refine' ba (w':=f3) rfl (by rw[bi];exact bJ rfl ⟨p,0,none⟩ f rfl rfl (ez.out.cell 0 _ rfl) (frozen_of_row _ _ _ _ _ ez.out)) m8.out ?_;simp only[yQ,yU,yX,yY];clear bi;refine ag ?_;clear i n;go_wp2;go_ret;exact⟨_,_,rfl,⟨tr.out,qi.out⟩,ae q.out m8.out⟩
   ·simp only[reduceIte,Nat.reduceEqDiff,wpTree,attachW,List.getElem?_cons_zero,List.getElem?_cons_succ];obtain⟨c2,d5⟩:∃d,d=G.alloc (.cells #[.int .i64 0] 3):=⟨_,rfl⟩;obtain⟨J,d6⟩:∃b,b=G.heap.size:=⟨_,rfl⟩;have m9:Hid (Below G.heap.size G c2):=by show Below _ _ _;rw[d5];exact ax _ _
    have na:Hid (af a c2):=ae d2.out m9.out;have k2:Hid (aa c2 J #[.int .i64 0] 3/\a.heap.size<=J):=by show _/\_;rw[d5,d6];exact⟨aa.new _ _ _ _ oS,d2.out.size⟩
    have k3:Hid (p≠J):=by show _≠_;rw[d6];exact Nat.ne_of_lt (au gz.out)
    have ts:=Lib.hid (gz.out.below m9.out);have tx:=Lib.hid k2.out.1;have wl:=Lib.hid k2.out.2;refine' zQ (v:= .pointer (some ⟨J,0,none⟩)) (w':=c2) rfl (by rw[d6,d5];go_simp) na.out ?_;clear d5 d6;refine ag ?_
    (try simp only[reduceIte,Nat.reduceEqDiff,wpTree,attachW,List.getElem?_cons_zero,List.getElem?_cons_succ])
    refine zZ ?_;refine(i.out _).mono ?_;rintro e k4 ⟨rfl,hb⟩;have nb:Hid (af a k4):=ae na.out hb;have gD:=Lib.hid (tx.out.below hb);have ty:=Lib.hid (ts.out.below hb);clear hb;refine⟨_,rfl,nb.out,jO ?_⟩
    repeat refine zO j.out ?_
    obtain⟨c3,bo⟩:∃d,d=k4.setCell ⟨J,0,none⟩ (.int .i64 (t:Int)):=⟨_,rfl⟩;have nc:Hid (af a c3):=by show Below _ _ _;rw[bo];exact nb.out.setCell (by exact wl.out) _
    have t0:Hid (aa c3 J #[.int .i64 (t:Int)] 3):=by show aa _ _ _ _;rw[bo];exact gD.out.fk _
    have eA:=Lib.hid (ty.out.cg ⟨J,0,none⟩ (.int .i64 (t:Int)) (k3.out.symm.symm));rw[<-bo]at eA;refine' ba (w':=c3) rfl (by rw[bo];exact bJ rfl ⟨J,0,none⟩ t rfl rfl (gD.out.cell 0 _ rfl) (frozen_of_row _ _ _ _ _ gD.out)) nc.out ?_;simp only[yQ,yU,yX,yY];clear bo;obtain⟨f4,bq⟩:∃d,d=c3.setCell ⟨p,0,none⟩ (.int .i64 (f:Int)):=⟨_,rfl⟩;have nl:Hid (af a f4):=by show Below _ _ _;rw[bq];exact nc.out.setCell (by exact rd.out) _
    have t1:Hid (aa f4 p #[.int .i64 (f:Int)] 3):=by show aa _ _ _ _;rw[bq];exact eA.out.fk _
    have qr:=Lib.hid (t0.out.cg ⟨p,0,none⟩ (.int .i64 (f:Int)) (k3.out.symm));rw[<-bq]at qr;refine' ba (w':=f4) rfl (by rw[bq];exact bJ rfl ⟨p,0,none⟩ f rfl rfl (eA.out.cell 0 _ rfl) (frozen_of_row _ _ _ _ _ eA.out)) nl.out ?_;simp only[yQ,yU,yX,yY];clear bq;refine ag ?_;clear i n;go_wp2;go_ret;exact⟨_,_,rfl,⟨t1.out,qr.out⟩,ae q.out nl.out⟩
 ·simp only[reduceIte,Nat.reduceEqDiff,wpTree,attachW,List.getElem?_cons_zero,List.getElem?_cons_succ];obtain⟨K,d7⟩:∃d,d=a.drew.alloc (.cells #[.int .i64 0] 3):=⟨_,rfl⟩;obtain⟨l,gq⟩:∃b,b=a.drew.heap.size:=⟨_,rfl⟩;have sd:Hid (Below a.drew.heap.size a.drew K):=by show Below _ _ _;rw[d7];exact ax _ _
  have d8:Hid (af a K):=ae V.out sd.out;have k5:Hid (aa K l #[.int .i64 0] 3/\a.heap.size<=l):=by show _/\_;rw[d7,gq];exact⟨aa.new _ _ _ _ oS,V.out.size⟩
  have gN:=Lib.hid k5.out.1;have g9:=Lib.hid k5.out.2;refine' zQ (v:= .pointer (some ⟨l,0,none⟩)) (w':=K) rfl (by rw[gq,d7];go_simp) d8.out ?_;clear d7 gq;refine ag ?_
  (try simp only[reduceIte,Nat.reduceEqDiff,wpTree,attachW,List.getElem?_cons_zero,List.getElem?_cons_succ])
  refine ag ?_;intro k g;simp only[List.mem_cons,List.not_mem_nil,or_false]at g;rcases g with rfl|rfl
  ·simp only[reduceIte,Nat.reduceEqDiff,wpTree,attachW,List.getElem?_cons_zero,List.getElem?_cons_succ];refine zZ ?_;refine(n.out _).mono ?_;rintro e a2 ⟨rfl,hb⟩;have d9:Hid (af a a2):=ae d8.out hb;have g0:=Lib.hid (gN.out.below hb);clear hb;refine⟨_,rfl,d9.out,jO ?_⟩;refine ag ?_
   (try simp only[reduceIte,Nat.reduceEqDiff,wpTree,attachW,List.getElem?_cons_zero,List.getElem?_cons_succ])
   repeat refine zO j.out ?_
   refine ag ?_;intro k g;simp only[List.mem_cons,List.not_mem_nil,or_false]at g;rcases g with rfl|rfl
   ·simp only[reduceIte,Nat.reduceEqDiff,wpTree,attachW,List.getElem?_cons_zero,List.getElem?_cons_succ];refine zZ ?_;refine(i.out _).mono ?_;rintro e a3 ⟨rfl,hb⟩;have gs:Hid (af a a3):=ae d9.out hb;have qs:=Lib.hid (g0.out.below hb);clear hb;refine⟨_,rfl,gs.out,jO ?_⟩;refine ag ?_
    (try simp only[reduceIte,Nat.reduceEqDiff,wpTree,attachW,List.getElem?_cons_zero,List.getElem?_cons_succ])
    repeat refine zO j.out ?_
    obtain⟨a4,ea⟩:∃d,d=a3.alloc (.cells #[.int .i64 0] 3):=⟨_,rfl⟩;obtain⟨M,ec⟩:∃b,b=a3.heap.size:=⟨_,rfl⟩;have no:Hid (Below a3.heap.size a3 a4):=by show Below _ _ _;rw[ea];exact ax _ _
    have np:Hid (af a a4):=ae gs.out no.out;have k7:Hid (aa a4 M #[.int .i64 0] 3/\a.heap.size<=M):=by show _/\_;rw[ea,ec];exact⟨aa.new _ _ _ _ oS,gs.out.size⟩
    have k9:Hid (l≠M):=by show _≠_;rw[ec];exact Nat.ne_of_lt (au qs.out)
    have g1:=Lib.hid (qs.out.below no.out);have t2:=Lib.hid k7.out.1;have wm:=Lib.hid k7.out.2;refine' zQ (v:= .pointer (some ⟨M,0,none⟩)) (w':=a4) rfl (by rw[ec,ea];go_simp) np.out ?_;clear ea ec;obtain⟨c4,bs⟩:∃d,d=a4.setCell ⟨l,0,none⟩ (.int .i64 (t:Int)):=⟨_,rfl⟩;have nz:Hid (af a c4):=by show Below _ _ _;rw[bs];exact np.out.setCell (by exact g9.out) _
    have t3:Hid (aa c4 l #[.int .i64 (t:Int)] 3):=by show aa _ _ _ _;rw[bs];exact g1.out.fk _
    have e0:=Lib.hid (t2.out.cg ⟨l,0,none⟩ (.int .i64 (t:Int)) (k9.out.symm));rw[<-bs]at e0;refine' ba (w':=c4) rfl (by rw[bs];exact bJ rfl ⟨l,0,none⟩ t rfl rfl (g1.out.cell 0 _ rfl) (frozen_of_row _ _ _ _ _ g1.out)) nz.out ?_;simp only[yQ,yU,yX,yY];clear bs;obtain⟨f5,bt⟩:∃d,d=c4.setCell ⟨M,0,none⟩ (.int .i64 (f:Int)):=⟨_,rfl⟩;have n0:Hid (af a f5):=by show Below _ _ _;rw[bt];exact nz.out.setCell (by exact wm.out) _
    have t4:Hid (aa f5 M #[.int .i64 (f:Int)] 3):=by show aa _ _ _ _;rw[bt];exact e0.out.fk _
    have q0:=Lib.hid (t3.out.cg ⟨M,0,none⟩ (.int .i64 (f:Int)) (k9.out));rw[<-bt]at q0;refine' ba (w':=f5) rfl (by rw[bt];exact bJ rfl ⟨M,0,none⟩ f rfl rfl (e0.out.cell 0 _ rfl) (frozen_of_row _ _ _ _ _ e0.out)) n0.out ?_;simp only[yQ,yU,yX,yY];clear bt;refine ag ?_;clear i n;go_wp2;go_ret;exact⟨_,_,rfl,⟨t4.out,q0.out⟩,ae q.out n0.out⟩
   ·simp only[reduceIte,Nat.reduceEqDiff,wpTree,attachW,List.getElem?_cons_zero,List.getElem?_cons_succ];obtain⟨c5,ed⟩:∃d,d=a2.alloc (.cells #[.int .i64 0] 3):=⟨_,rfl⟩;obtain⟨N,ef⟩:∃b,b=a2.heap.size:=⟨_,rfl⟩;have n5:Hid (Below a2.heap.size a2 c5):=by show Below _ _ _;rw[ed];exact ax _ _
    have n6:Hid (af a c5):=ae d9.out n5.out;have la:Hid (aa c5 N #[.int .i64 0] 3/\a.heap.size<=N):=by show _/\_;rw[ed,ef];exact⟨aa.new _ _ _ _ oS,d9.out.size⟩
    have lc:Hid (l≠N):=by show _≠_;rw[ef];exact Nat.ne_of_lt (au g0.out)
    have t5:=Lib.hid (g0.out.below n5.out);have t6:=Lib.hid la.out.1;have wn:=Lib.hid la.out.2;refine' zQ (v:= .pointer (some ⟨N,0,none⟩)) (w':=c5) rfl (by rw[ef,ed];go_simp) n6.out ?_;clear ed ef;refine ag ?_
    (try simp only[reduceIte,Nat.reduceEqDiff,wpTree,attachW,List.getElem?_cons_zero,List.getElem?_cons_succ])
    refine zZ ?_;refine(i.out _).mono ?_;rintro e li ⟨rfl,hb⟩;have n7:Hid (af a li):=ae n6.out hb;have g2:=Lib.hid (t5.out.below hb);have t7:=Lib.hid (t6.out.below hb);clear hb;refine⟨_,rfl,n7.out,jO ?_⟩
    repeat refine zO j.out ?_
    obtain⟨c6,bv⟩:∃d,d=li.setCell ⟨l,0,none⟩ (.int .i64 (t:Int)):=⟨_,rfl⟩;have n8:Hid (af a c6):=by show Below _ _ _;rw[bv];exact n7.out.setCell (by exact g9.out) _
    have t8:Hid (aa c6 l #[.int .i64 (t:Int)] 3):=by show aa _ _ _ _;rw[bv];exact g2.out.fk _
    have e9:=Lib.hid (t7.out.cg ⟨l,0,none⟩ (.int .i64 (t:Int)) (lc.out.symm));rw[<-bv]at e9;refine' ba (w':=c6) rfl (by rw[bv];exact bJ rfl ⟨l,0,none⟩ t rfl rfl (g2.out.cell 0 _ rfl) (frozen_of_row _ _ _ _ _ g2.out)) n8.out ?_;simp only[yQ,yU,yX,yY];clear bv;obtain⟨f6,bx⟩:∃d,d=c6.setCell ⟨N,0,none⟩ (.int .i64 (f:Int)):=⟨_,rfl⟩;have n9:Hid (af a f6):=by show Below _ _ _;rw[bx];exact n8.out.setCell (by exact wn.out) _
    have t9:Hid (aa f6 N #[.int .i64 (f:Int)] 3):=by show aa _ _ _ _;rw[bx];exact e9.out.fk _
    have q1:=Lib.hid (t8.out.cg ⟨N,0,none⟩ (.int .i64 (f:Int)) (lc.out));rw[<-bx]at q1;refine' ba (w':=f6) rfl (by rw[bx];exact bJ rfl ⟨N,0,none⟩ f rfl rfl (e9.out.cell 0 _ rfl) (frozen_of_row _ _ _ _ _ e9.out)) n9.out ?_;simp only[yQ,yU,yX,yY];clear bx;refine ag ?_;clear i n;go_wp2;go_ret;exact⟨_,_,rfl,⟨t9.out,q1.out⟩,ae q.out n9.out⟩
  ·simp only[reduceIte,Nat.reduceEqDiff,wpTree,attachW,List.getElem?_cons_zero,List.getElem?_cons_succ];obtain⟨c7,eh⟩:∃d,d=K.alloc (.cells #[.int .i64 0] 3):=⟨_,rfl⟩;obtain⟨O,ei⟩:∃b,b=K.heap.size:=⟨_,rfl⟩;have ob:Hid (Below K.heap.size K c7):=by show Below _ _ _;rw[eh];exact ax _ _
   have oi:Hid (af a c7):=ae d8.out ob.out;have ll:Hid (aa c7 O #[.int .i64 0] 3/\a.heap.size<=O):=by show _/\_;rw[eh,ei];exact⟨aa.new _ _ _ _ oS,d8.out.size⟩
   have lm:Hid (l≠O):=by show _≠_;rw[ei];exact Nat.ne_of_lt (au gN.out)
   have ub:=Lib.hid (gN.out.below ob.out);have ue:=Lib.hid ll.out.1;have wo:=Lib.hid ll.out.2;refine' zQ (v:= .pointer (some ⟨O,0,none⟩)) (w':=c7) rfl (by rw[ei,eh];go_simp) oi.out ?_;clear eh ei;refine ag ?_
   (try simp only[reduceIte,Nat.reduceEqDiff,wpTree,attachW,List.getElem?_cons_zero,List.getElem?_cons_succ])
   refine zZ ?_;refine(n.out _).mono ?_;rintro e rt ⟨rfl,hb⟩;have oj:Hid (af a rt):=ae oi.out hb;have ul:=Lib.hid (ub.out.below hb);have un:=Lib.hid (ue.out.below hb);clear hb;refine⟨_,rfl,oj.out,jO ?_⟩
   repeat refine zO j.out ?_
   refine zZ ?_;refine(i.out _).mono ?_;rintro e ls ⟨rfl,hb⟩;have ol:Hid (af a ls):=ae oj.out hb;have g3:=Lib.hid (ul.out.below hb);have up:=Lib.hid (un.out.below hb);clear hb;refine⟨_,rfl,ol.out,jO ?_⟩
   repeat refine zO j.out ?_
   obtain⟨c8,bz⟩:∃d,d=ls.setCell ⟨l,0,none⟩ (.int .i64 (t:Int)):=⟨_,rfl⟩;have oo:Hid (af a c8):=by show Below _ _ _;rw[bz];exact ol.out.setCell (by exact g9.out) _
   have us:Hid (aa c8 l #[.int .i64 (t:Int)] 3):=by show aa _ _ _ _;rw[bz];exact g3.out.fk _
   have fb:=Lib.hid (up.out.cg ⟨l,0,none⟩ (.int .i64 (t:Int)) (lm.out.symm));rw[<-bz]at fb;refine' ba (w':=c8) rfl (by rw[bz];exact bJ rfl ⟨l,0,none⟩ t rfl rfl (g3.out.cell 0 _ rfl) (frozen_of_row _ _ _ _ _ g3.out)) oo.out ?_;simp only[yQ,yU,yX,yY];clear bz;obtain⟨f7,b1⟩:∃d,d=c8.setCell ⟨O,0,none⟩ (.int .i64 (f:Int)):=⟨_,rfl⟩;have op:Hid (af a f7):=by show Below _ _ _;rw[b1];exact oo.out.setCell (by exact wo.out) _
   have ut:Hid (aa f7 O #[.int .i64 (f:Int)] 3):=by show aa _ _ _ _;rw[b1];exact fb.out.fk _
   have q2:=Lib.hid (us.out.cg ⟨O,0,none⟩ (.int .i64 (f:Int)) (lm.out));rw[<-b1]at q2;refine' ba (w':=f7) rfl (by rw[b1];exact bJ rfl ⟨O,0,none⟩ f rfl rfl (fb.out.cell 0 _ rfl) (frozen_of_row _ _ _ _ _ fb.out)) op.out ?_;simp only[yQ,yU,yX,yY];clear b1;refine ag ?_;clear i n;go_wp2;go_ret;exact⟨_,_,rfl,⟨ut.out,q2.out⟩,ae q.out op.out⟩
 ·simp only[reduceIte,Nat.reduceEqDiff,wpTree,attachW,List.getElem?_cons_zero,List.getElem?_cons_succ];obtain⟨P,ek⟩:∃d,d=a.drew.alloc (.cells #[.int .i64 0] 3):=⟨_,rfl⟩;obtain⟨m,gt⟩:∃b,b=a.drew.heap.size:=⟨_,rfl⟩;have sm:Hid (Below a.drew.heap.size a.drew P):=by show Below _ _ _;rw[ek];exact ax _ _
  have el:Hid (af a P):=ae V.out sm.out;have lv:Hid (aa P m #[.int .i64 0] 3/\a.heap.size<=m):=by show _/\_;rw[ek,gt];exact⟨aa.new _ _ _ _ oS,V.out.size⟩
  have g4:=Lib.hid lv.out.1;have ib:=Lib.hid lv.out.2;refine' zQ (v:= .pointer (some ⟨m,0,none⟩)) (w':=P) rfl (by rw[gt,ek];go_simp) el.out ?_;clear ek gt;refine ag ?_
  (try simp only[reduceIte,Nat.reduceEqDiff,wpTree,attachW,List.getElem?_cons_zero,List.getElem?_cons_succ])
  refine ag ?_;intro k g;simp only[List.mem_cons,List.not_mem_nil,or_false]at g;rcases g with rfl|rfl
  ·simp only[reduceIte,Nat.reduceEqDiff,wpTree,attachW,List.getElem?_cons_zero,List.getElem?_cons_succ];refine zZ ?_;refine(n.out _).mono ?_;rintro e a5 ⟨rfl,hb⟩;have em:Hid (af a a5):=ae el.out hb;have g5:=Lib.hid (g4.out.below hb);clear hb;refine⟨_,rfl,em.out,jO ?_⟩;refine ag ?_
   (try simp only[reduceIte,Nat.reduceEqDiff,wpTree,attachW,List.getElem?_cons_zero,List.getElem?_cons_succ])
   repeat refine zO j.out ?_
   refine ag ?_;intro k g;simp only[List.mem_cons,List.not_mem_nil,or_false]at g;rcases g with rfl|rfl
   ·simp only[reduceIte,Nat.reduceEqDiff,wpTree,attachW,List.getElem?_cons_zero,List.getElem?_cons_succ];refine zZ ?_;refine(i.out _).mono ?_;rintro e a6 ⟨rfl,hb⟩;have gv:Hid (af a a6):=ae em.out hb;have q3:=Lib.hid (g5.out.below hb);clear hb;refine⟨_,rfl,gv.out,jO ?_⟩;refine ag ?_
    (try simp only[reduceIte,Nat.reduceEqDiff,wpTree,attachW,List.getElem?_cons_zero,List.getElem?_cons_succ])
    repeat refine zO j.out ?_
    obtain⟨a7,en⟩:∃d,d=a6.alloc (.cells #[.int .i64 0] 3):=⟨_,rfl⟩;obtain⟨Q,eq⟩:∃b,b=a6.heap.size:=⟨_,rfl⟩;have os:Hid (Below a6.heap.size a6 a7):=by show Below _ _ _;rw[en];exact ax _ _
    have ot:Hid (af a a7):=ae gv.out os.out;have lw:Hid (aa a7 Q #[.int .i64 0] 3/\a.heap.size<=Q):=by show _/\_;rw[en,eq];exact⟨aa.new _ _ _ _ oS,gv.out.size⟩
    have lx:Hid (m≠Q):=by show _≠_;rw[eq];exact Nat.ne_of_lt (au q3.out)
    have vq:=Lib.hid (q3.out.below os.out);have g6:=Lib.hid lw.out.1;have wp:=Lib.hid lw.out.2;refine' zQ (v:= .pointer (some ⟨Q,0,none⟩)) (w':=a7) rfl (by rw[eq,en];go_simp) ot.out ?_;clear en eq;obtain⟨c9,b2⟩:∃d,d=a7.setCell ⟨Q,0,none⟩ (.int .i64 (t:Int)):=⟨_,rfl⟩;have ov:Hid (af a c9):=by show Below _ _ _;rw[b2];exact ot.out.setCell (by exact wp.out) _
    have vr:Hid (aa c9 Q #[.int .i64 (t:Int)] 3):=by show aa _ _ _ _;rw[b2];exact g6.out.fk _
    have fc:=Lib.hid (vq.out.cg ⟨Q,0,none⟩ (.int .i64 (t:Int)) (lx.out.symm.symm));rw[<-b2]at fc;refine' ba (w':=c9) rfl (by rw[b2];exact bJ rfl ⟨Q,0,none⟩ t rfl rfl (g6.out.cell 0 _ rfl) (frozen_of_row _ _ _ _ _ g6.out)) ov.out ?_;simp only[yQ,yU,yX,yY];clear b2;obtain⟨f8,b3⟩:∃d,d=c9.setCell ⟨m,0,none⟩ (.int .i64 (f:Int)):=⟨_,rfl⟩;have o0:Hid (af a f8):=by show Below _ _ _;rw[b3];exact ov.out.setCell (by exact ib.out) _
    have vs:Hid (aa f8 m #[.int .i64 (f:Int)] 3):=by show aa _ _ _ _;rw[b3];exact fc.out.fk _
    have q4:=Lib.hid (vr.out.cg ⟨m,0,none⟩ (.int .i64 (f:Int)) (lx.out.symm));rw[<-b3]at q4;refine' ba (w':=f8) rfl (by rw[b3];exact bJ rfl ⟨m,0,none⟩ f rfl rfl (fc.out.cell 0 _ rfl) (frozen_of_row _ _ _ _ _ fc.out)) o0.out ?_;simp only[yQ,yU,yX,yY];clear b3;refine ag ?_;clear i n;go_wp2;go_ret;exact⟨_,_,rfl,⟨vs.out,q4.out⟩,ae q.out o0.out⟩
   ·simp only[reduceIte,Nat.reduceEqDiff,wpTree,attachW,List.getElem?_cons_zero,List.getElem?_cons_succ];obtain⟨da,er⟩:∃d,d=a5.alloc (.cells #[.int .i64 0] 3):=⟨_,rfl⟩;obtain⟨T,es⟩:∃b,b=a5.heap.size:=⟨_,rfl⟩;have o1:Hid (Below a5.heap.size a5 da):=by show Below _ _ _;rw[er];exact ax _ _
    have o2:Hid (af a da):=ae em.out o1.out;have ly:Hid (aa da T #[.int .i64 0] 3/\a.heap.size<=T):=by show _/\_;rw[er,es];exact⟨aa.new _ _ _ _ oS,em.out.size⟩
    have l0:Hid (m≠T):=by show _≠_;rw[es];exact Nat.ne_of_lt (au g5.out)
    have vv:=Lib.hid (g5.out.below o1.out);have vG:=Lib.hid ly.out.1;have wq:=Lib.hid ly.out.2;refine' zQ (v:= .pointer (some ⟨T,0,none⟩)) (w':=da) rfl (by rw[es,er];go_simp) o2.out ?_;clear er es;refine ag ?_
    (try simp only[reduceIte,Nat.reduceEqDiff,wpTree,attachW,List.getElem?_cons_zero,List.getElem?_cons_succ])
    refine zZ ?_;refine(i.out _).mono ?_;rintro e l1 ⟨rfl,hb⟩;have o3:Hid (af a l1):=ae o2.out hb;have g7:=Lib.hid (vG.out.below hb);have v0:=Lib.hid (vv.out.below hb);clear hb;refine⟨_,rfl,o3.out,jO ?_⟩
    repeat refine zO j.out ?_
    obtain⟨dd,b4⟩:∃d,d=l1.setCell ⟨T,0,none⟩ (.int .i64 (t:Int)):=⟨_,rfl⟩;have pb:Hid (af a dd):=by show Below _ _ _;rw[b4];exact o3.out.setCell (by exact wq.out) _
    have v1:Hid (aa dd T #[.int .i64 (t:Int)] 3):=by show aa _ _ _ _;rw[b4];exact g7.out.fk _
    have fd:=Lib.hid (v0.out.cg ⟨T,0,none⟩ (.int .i64 (t:Int)) (l0.out.symm.symm));rw[<-b4]at fd;refine' ba (w':=dd) rfl (by rw[b4];exact bJ rfl ⟨T,0,none⟩ t rfl rfl (g7.out.cell 0 _ rfl) (frozen_of_row _ _ _ _ _ g7.out)) pb.out ?_;simp only[yQ,yU,yX,yY];clear b4;obtain⟨f9,b5⟩:∃d,d=dd.setCell ⟨m,0,none⟩ (.int .i64 (f:Int)):=⟨_,rfl⟩;have pf:Hid (af a f9):=by show Below _ _ _;rw[b5];exact pb.out.setCell (by exact ib.out) _
    have v2:Hid (aa f9 m #[.int .i64 (f:Int)] 3):=by show aa _ _ _ _;rw[b5];exact fd.out.fk _
    have q5:=Lib.hid (v1.out.cg ⟨m,0,none⟩ (.int .i64 (f:Int)) (l0.out.symm));rw[<-b5]at q5;refine' ba (w':=f9) rfl (by rw[b5];exact bJ rfl ⟨m,0,none⟩ f rfl rfl (fd.out.cell 0 _ rfl) (frozen_of_row _ _ _ _ _ fd.out)) pf.out ?_;simp only[yQ,yU,yX,yY];clear b5;refine ag ?_;clear i n;go_wp2;go_ret;exact⟨_,_,rfl,⟨v2.out,q5.out⟩,ae q.out pf.out⟩
  ·simp only[reduceIte,Nat.reduceEqDiff,wpTree,attachW,List.getElem?_cons_zero,List.getElem?_cons_succ];obtain⟨de,et⟩:∃d,d=P.alloc (.cells #[.int .i64 0] 3):=⟨_,rfl⟩;obtain⟨U,ew⟩:∃b,b=P.heap.size:=⟨_,rfl⟩;have pi:Hid (Below P.heap.size P de):=by show Below _ _ _;rw[et];exact ax _ _
   have pl:Hid (af a de):=ae el.out pi.out;have l2:Hid (aa de U #[.int .i64 0] 3/\a.heap.size<=U):=by show _/\_;rw[et,ew];exact⟨aa.new _ _ _ _ oS,el.out.size⟩
   have mb:Hid (m≠U):=by show _≠_;rw[ew];exact Nat.ne_of_lt (au g4.out)
   have v3:=Lib.hid (g4.out.below pi.out);have v4:=Lib.hid l2.out.1;have ws:=Lib.hid l2.out.2;refine' zQ (v:= .pointer (some ⟨U,0,none⟩)) (w':=de) rfl (by rw[ew,et];go_simp) pl.out ?_;clear et ew;refine ag ?_
   (try simp only[reduceIte,Nat.reduceEqDiff,wpTree,attachW,List.getElem?_cons_zero,List.getElem?_cons_succ])
   refine zZ ?_;refine(n.out _).mono ?_;rintro e rx ⟨rfl,hb⟩;have pm:Hid (af a rx):=ae pl.out hb;have v5:=Lib.hid (v4.out.below hb);have v6:=Lib.hid (v3.out.below hb);clear hb;refine⟨_,rfl,pm.out,jO ?_⟩
   repeat refine zO j.out ?_
   refine zZ ?_;refine(i.out _).mono ?_;rintro e md ⟨rfl,hb⟩;have pp:Hid (af a md):=ae pm.out hb;have g8:=Lib.hid (v5.out.below hb);have v7:=Lib.hid (v6.out.below hb);clear hb;refine⟨_,rfl,pp.out,jO ?_⟩
   repeat refine zO j.out ?_
   obtain⟨dl,b6⟩:∃d,d=md.setCell ⟨U,0,none⟩ (.int .i64 (t:Int)):=⟨_,rfl⟩;have pu:Hid (af a dl):=by show Below _ _ _;rw[b6];exact pp.out.setCell (by exact ws.out) _
   have v8:Hid (aa dl U #[.int .i64 (t:Int)] 3):=by show aa _ _ _ _;rw[b6];exact g8.out.fk _
   have fn:=Lib.hid (v7.out.cg ⟨U,0,none⟩ (.int .i64 (t:Int)) (mb.out.symm.symm));rw[<-b6]at fn;refine' ba (w':=dl) rfl (by rw[b6];exact bJ rfl ⟨U,0,none⟩ t rfl rfl (g8.out.cell 0 _ rfl) (frozen_of_row _ _ _ _ _ g8.out)) pu.out ?_;simp only[yQ,yU,yX,yY];clear b6;obtain⟨gb,b7⟩:∃d,d=dl.setCell ⟨m,0,none⟩ (.int .i64 (f:Int)):=⟨_,rfl⟩;have pv:Hid (af a gb):=by show Below _ _ _;rw[b7];exact pu.out.setCell (by exact ib.out) _
   have v9:Hid (aa gb m #[.int .i64 (f:Int)] 3):=by show aa _ _ _ _;rw[b7];exact fn.out.fk _
   have rb:=Lib.hid (v8.out.cg ⟨m,0,none⟩ (.int .i64 (f:Int)) (mb.out.symm));rw[<-b7]at rb;refine' ba (w':=gb) rfl (by rw[b7];exact bJ rfl ⟨m,0,none⟩ f rfl rfl (fn.out.cell 0 _ rfl) (frozen_of_row _ _ _ _ _ fn.out)) pv.out ?_;simp only[yQ,yU,yX,yY];clear b7;refine ag ?_;clear i n;go_wp2;go_ret;exact⟨_,_,rfl,⟨v9.out,rb.out⟩,ae q.out pv.out⟩
theorem x5 (L:Nat) (w:World):Calls Tryz.prog 92 #[aP L true] w λe w'=>e= .returned (.func (Fn.func 137) #[] #[])/\Below w.heap.size w w':=by
 have a:=eP w L true;obtain⟨b,c⟩:=a.out _ (Below.refl _ _);go_enter Tryz.func92,Tryz.ntmps92;go_wp2;go_ret;exact⟨rfl,ax _ _⟩
theorem r7 (L:Nat) (c:Bool) (w:World) (b:L<=32):Calls Tryz.prog 92 #[aP L c] w λe w'=>∃hb a,e= .returned (Ho c hb a)/\(c=false->HC L w' hb a)/\Below w.heap.size w w':=by
 cases c with
 |true=>
  refine(x5 L w).mono ?_;rintro e w' ⟨rfl,hb⟩;exact⟨0,0,rfl,(λh=>by cases h),hb⟩
 |false=>
  refine(xY L w b).mono ?_;rintro e w' ⟨hb,a,rfl,hc,d⟩;exact⟨hb,a,rfl,λ_=>hc,d⟩
theorem Kv (L:Nat) (c:Bool) (i:Nat):rN L c i=if c=true then 4* (L-i)+9 else 4* (L-i)+12:=rfl
def fM (n:Nat) (w:World) (v:Value) (xs:List Pt):Prop:=SP w v xs/\∀A m k a,v= .slice A m k->A=some a->n<=a.block
theorem fM.aI {W:World} {base:Nat} {e:TypeId} {n:Nat} {v:Value} {xs:List Pt} (h:W.ownsRow base e 2 v n (xs.flatMap eY)):fM base W v xs:=by
 refine⟨SP.aI h,λA m k c e1 e2=>?_⟩;subst e1 e2;rcases h.2 with⟨a,-⟩|⟨g,cap,d,a,b,-⟩
 ·cases a
 ·injection a with a _ _;injection a with a;rw[a];exact b
theorem fM.below {n:Nat} {W a:World} {v:Value} {xs:List Pt} (h:fM n W v xs) (hb:Below W.heap.size W a):fM n a v xs:=⟨h.1.below hb,h.2⟩
theorem fM.mono {n m:Nat} {W:World} {v:Value} {xs:List Pt} (h:fM n W v xs) (b:m<=n):fM m W v xs:=⟨h.1,λA a k c e1 e2=>Nat.le_trans b (h.2 A a k c e1 e2)⟩
theorem Ag (a b c d:Value):(#[a,b]++#[c,d]:Array Value)=#[a,b,c,d]:=by simp
theorem kP (a b c d e:Value):(#[a,b]++#[c,d,e]:Array Value)=#[a,b,c,d,e]:=by simp
theorem Hh (L:Nat) (w:World) (J:L<=32):Calls Tryz.prog 46 #[aP L true] w λe w'=>∃v,e= .returned v/\fM w.heap.size w' v (bp L true)/\Below w.heap.size w w':=by
 obtain⟨c4,c5,c9,da,dd⟩:=info_parts sw;have M:=eP w L true;have de:Hid (∀W,Calls Tryz.prog 92 #[aP L true] W λe w'=>∃hb F,e= .returned (.func (Fn.func 137) #[] #[])/\(true=false->HC L w' hb F)/\Below W.heap.size W w'):=λW=>r7 L true W J;have b5:Hid (∀W,Calls Tryz.prog 85 #[aP L true] W λe w'=>e= .returned (.int .i64 ((aC L true:Nat):Int))/\Below W.heap.size W w'):=λW=>q9 L true W J;have b6:Hid (∀W,Calls Tryz.prog 89 #[aP L true] W λe w'=>e= .returned (.int .i64 ((ja L true:Nat):Int))/\Below W.heap.size W w'):=λW=>vj L true W J;have X:Hid (L<=32):=J;have dl:=Lib.hid (jK (c:=true) J);have dn:=Lib.hid (room_le (c:=true) J);obtain⟨bs,bt⟩:=dl.out;have c3:=dn.out;obtain⟨N,b7⟩:∃N,N=aC L true-1:=⟨_,rfl⟩;have cp:((aC L true:Nat):Int)-1=(N:Int):=oO;have ds:=Lib.hid b7;have ec:N<=141:=oO;obtain⟨R,G⟩:∃R,R=ja L true:=⟨_,rfl⟩;rw[<-G]at b6 c3;clear b7 G;obtain⟨B,hB⟩:∃B,B=aC L true:=⟨_,rfl⟩;rw[<-hB]at b5 bs bt cp;clear hB;obtain⟨al,P⟩:∃al,al=w.alloc (bE L true):=⟨_,rfl⟩;have dv:Hid (Below w.heap.size w al):=by show Below _ _ _;rw[P];exact ax _ _
 have Y:Hid (aa al w.heap.size #[.int .i64 L,.bool true] 60):=by show aa _ _ _ _;rw[P];exact aa.new _ _ _ _ oS
 rw[<-P]at M;obtain⟨C,E⟩:=M.out _ (Below.refl _ _);rw[P]at C E;have dx:∀(W:World) (a:Addr) (g:Fn) (b c:Array Value),(store a (.func g b c)).run Tryz.prog W=stored Tryz.prog W a (.func g b c) .plain:=λW a g b c=>run_store _ W a _ _ rfl;go_enter Tryz.func46,Tryz.ntmps46
 go_wp2_with(first
  |(go_at_call 92;refine(de.out _).mono ?_;rintro e K ⟨hb,F,rfl,b8,bb⟩;rw[<-P]at bb;have y:=Lib.hid bb;have b9:=Lib.hid b8;clear bb b8 C E;obtain⟨C,E⟩:=M.out _ y.out;have a7:w.heap.size<K.heap.size:=au (Y.out.below y.out))
  |(go_at_call 85;refine(b5.out _).mono ?_;rintro e O ⟨rfl,ca⟩;have z:=Lib.hid ca;clear ca C E;obtain⟨C,E⟩:=M.out _ (ae (ah y.out _) z.out);have c6:w.heap.size<O.heap.size:=au (Y.out.below (ae (ah y.out _) z.out)))
  |(go_at_call 89;refine(b6.out _).mono ?_;rintro e f ⟨rfl,cb⟩;have H:=Lib.hid cb;clear cb C E;obtain⟨C,E⟩:=M.out _ (ae (ah (ae (ah y.out _) z.out) _) H.out);have s3:w.heap.size<f.heap.size:=au (Y.out.below (ae (ah (ae (ah y.out _) z.out) _) H.out)))
  |(at_make;refine wpList_make_own _ rfl _ _ _ rfl f.heap.size 47 c4 _ 2 Tryz.underlying40 c5 c9 da .i64 .i64 _ R rfl rfl (by first|rfl|omega) (by rw[dd];omega) oM (Nat.le_refl _) ?_;intro am cq hg;have dy:=Lib.hid cq;have a0:Hid (Below f.heap.size f am):=(Below.refl _ _).grown hg (Nat.le_refl _) (λq hq=>by cases hq);clear cq hg C E;obtain⟨C,E⟩:=M.out _ (ae (ae (ah (ae (ah y.out _) z.out) _) H.out) a0.out);have c7:w.heap.size<am.heap.size:=au (Y.out.below (ae (ae (ah (ae (ah y.out _) z.out) _) H.out) a0.out))))
 obtain⟨x,Z⟩:∃x,x=am.alloc (.cells #[.slice (some ⟨f.heap.size,0,none⟩) 0 R] 40):=⟨_,rfl⟩;obtain⟨u,a1⟩:∃u,u=am.heap.size:=⟨_,rfl⟩;have Q:Hid (Below f.heap.size f x):=by show Below _ _ _;rw[Z];exact ah a0.out _
 obtain⟨p,bd⟩:∃p,p=K.heap.size:=⟨_,rfl⟩;obtain⟨lb,be⟩:∃lb,lb=O.heap.size:=⟨_,rfl⟩;have ce:aa (K.alloc (.cells #[.func (Fn.func 137) #[] #[]] 77)) K.heap.size #[.func (Fn.func 137) #[] #[]] 77:=aa.new _ _ _ _ oS;have ch:aa (O.alloc (.cells #[.int .i64 (N:Int)] 3)) O.heap.size #[.int .i64 (N:Int)] 3:=aa.new _ _ _ _ oS;have ab:Below O.heap.size O f:=cP H.out;have dz:Hid (mv L true p lb hb F x):=by
  show mv _ _ _ _ _ _ _;refine⟨?_,?_,λe=>?_⟩
  ·rw[bd];exact((ce.below z.out).below ab).below Q.out
  ·rw[be,<-ds.out];exact(ch.below H.out).below Q.out
  ·have bv:Below K.heap.size K x:=ae (ae (cP z.out) ab) Q.out;have bx:HC L K hb F:=by first|exact b9.out e|exact b9.out trivial|cases e
   exact⟨bx.1.below bv,bx.2.below bv⟩
 have ci:Hid (Below w.heap.size w f):=ae dv.out (ae y.out (ae (cP z.out) ab));have bf:Hid (aa x w.heap.size #[.int .i64 L,.bool true] 60):=((((Y.out.below y.out).below (cP z.out)).below ab)).below Q.out;have ck:Hid (BP f.heap.size f x u (iL L true 0)):=by
  show BP _ _ _ _ _;refine⟨Q.out,⟨some ⟨f.heap.size,0,none⟩,R,?_,?_⟩,?_,?_⟩
  ·show aa _ _ #[.slice (some ⟨f.heap.size,0,none⟩) 0 R] _;rw[Z,a1];exact aa.new _ _ _ _ oS
  ·show World.ownsRow _ _ _ _ (.slice (some ⟨f.heap.size,0,none⟩) 0 R) 0 [];rw[Z];exact ar dy.out (ax _ _)
  ·rw[a1];exact a0.out.size
  ·exact Q.out.size
 have ap:x.cell? ⟨w.heap.size,0,none⟩=some (.int .i64 L):=bf.out.cell 0 _ rfl;rw[<-Z,<-a1,<-bd,<-be];have S:Hid (aK x x):=aK.refl _;clear a7 c6 s3 c7 dx Z a1 bd be ce ch ab C E P cp c3 bs bt;go_wp2;clear ap;go_loopw [23] (λa8 wr=>∃i:Nat,i<=L/\a8= .int .i64 i/\Hid (BP f.heap.size f wr u (iL L true i)/\aK x wr)) (λa8 _=>L-(intOf a8).toNat)
 case atStart=>exact⟨0,Nat.zero_le _,rfl,ck.out,S.out⟩
 case round=>
  clear ck S;obtain⟨i,d9,rfl,G⟩:=hrel;by_cases dE:i<L
  ·obtain⟨d,bz⟩:∃d,d=L-i:=⟨_,rfl⟩;have d0:(L:Int)-(i:Int)=(d:Int):=oO;obtain⟨r,av⟩:∃r,r=rN L true i:=⟨_,rfl⟩;have a2:r<=140:=by rw[av];exact Fs J
   have T:=Lib.hid av;have d1:4* (d:Int)+9=(r:Int):=by have a9:=Kv L true i;simp at a9;rw[av,a9,bz];omega
   have ea:d<=32:=oO;obtain⟨o,ac⟩:∃o,o=wr.alloc (.cells #[.int .i64 (i:Int)] 3):=⟨_,rfl⟩;obtain⟨t,U⟩:∃t,t=wr.heap.size:=⟨_,rfl⟩;have co:Hid (Below wr.heap.size wr o):=by show Below _ _ _;rw[ac];exact ax _ _
   have ad:Hid (aa o t #[.int .i64 (i:Int)] 3):=by show aa _ _ _ _;rw[ac,U];exact aa.new _ _ _ _ oS
   have S:Hid (aK x o):=G.out.2.trans (aK.below co.out);have d2:Hid (BP f.heap.size f o u (iL L true i++sL L true i 0)):=by show BP _ _ _ _ _;rw[show sL L true i 0=[]from rfl,List.append_nil];exact G.out.1.below co.out
   have a3:Hid (mv L true p lb hb F o):=dz.out.dD S.out;have ap:o.cell? ⟨w.heap.size,0,none⟩=some (.int .i64 L):=(bf.out.iZ S.out rfl).cell 0 _ rfl;have V:o.cell? ⟨t,0,none⟩=some (.int .i64 (i:Int)):=ad.out.cell 0 _ rfl;have a4:=Lib.hid dE;have a7:w.heap.size<wr.heap.size:=au (bf.out.iZ G.out.2 rfl);rw[ac]at ap V;rw[U]at V;clear bz av;have cs:Hid (∀W,aK o W->∀j k,j<r->k<2->Calls Tryz.prog 94 #[.int .i64 ((j:Nat):Int),.int .i64 ((k:Nat):Int),.pointer (some ⟨p,0,none⟩),.pointer (some ⟨t,0,none⟩)] W λe w'=>e= .returned (.agg #[.int .i64 (((eO L true i 0 j k).1:Nat):Int),.int .i64 (((eO L true i 0 j k).2:Nat):Int)])/\Below W.heap.size W w'):=by
    show∀W,_;intro W l j k m n;exact DW L true p lb t hb F i j k W X.out a4.out (by rw[<-T.out];exact m) n (a3.out.dD l) (ad.out.iZ l rfl)
   have cv:Hid (∀W,aK o W->∀j k,j<r->k<2->Calls Tryz.prog 95 #[.int .i64 ((j:Nat):Int),.int .i64 ((k:Nat):Int),.pointer (some ⟨p,0,none⟩),.pointer (some ⟨t,0,none⟩),.pointer (some ⟨lb,0,none⟩)] W λe w'=>e= .returned (.agg #[.int .i64 (((eO L true i 1 j k).1:Nat):Int),.int .i64 (((eO L true i 1 j k).2:Nat):Int)])/\Below W.heap.size W w'):=by
    show∀W,_;intro W l j k m n;exact D0 L true p lb t hb F i j k W X.out a4.out (by rw[<-T.out];exact m) n (a3.out.dD l) (ad.out.iZ l rfl)
   have cx:Hid (∀W,aK o W->∀j k,j<r->k<2->Calls Tryz.prog 96 #[.int .i64 ((j:Nat):Int),.int .i64 ((k:Nat):Int),.pointer (some ⟨p,0,none⟩),.pointer (some ⟨lb,0,none⟩),.pointer (some ⟨t,0,none⟩)] W λe w'=>e= .returned (.agg #[.int .i64 (((eO L true i 2 j k).1:Nat):Int),.int .i64 (((eO L true i 2 j k).2:Nat):Int)])/\Below W.heap.size W w'):=by
    show∀W,_;intro W l j k m n;exact D2 L true p lb t hb F i j k W X.out a4.out (by rw[<-T.out];exact m) n (a3.out.dD l) (ad.out.iZ l rfl)
   have c2:Hid (∀W,aK o W->∀j k,j<r->k<2->Calls Tryz.prog 97 #[.int .i64 ((j:Nat):Int),.int .i64 ((k:Nat):Int),.pointer (some ⟨p,0,none⟩),.pointer (some ⟨lb,0,none⟩),.pointer (some ⟨t,0,none⟩)] W λe w'=>e= .returned (.agg #[.int .i64 (((eO L true i 3 j k).1:Nat):Int),.int .i64 (((eO L true i 3 j k).2:Nat):Int)])/\Below W.heap.size W w'):=by
    show∀W,_;intro W l j k m n;exact D4 L true p lb t hb F i j k W X.out a4.out (by rw[<-T.out];exact m) n (a3.out.dD l) (ad.out.iZ l rfl)
   have a5:Hid (∀s,s<=4->(iL L true i++sL L true i s).length<=60000):=by
    show∀s,_;intro s hs;rw[List.length_append,nE];have a9:=Fq (c:=true) X.out i;have d8:s* (2* rN L true i)<=4* (2* 140):=Nat.mul_le_mul hs (by rw[<-T.out];omega);omega
   have a6:Hid (∀s,iL L true i++sL L true i (s+1)=iL L true i++sL L true i s++jL L true i s r):=by
    show∀s,_;intro s;rw[yh,<-T.out,List.append_assoc]
   rw[<-U]at V;rw[U]at V;go_wp2_with fail
   rw[<-ac,<-U];clear a7 ap V d1 d0 ac U;refine(jl f.heap.size f _ u (iL L true i++sL L true i 0) 94 #[.pointer (some ⟨p,0,none⟩),.pointer (some ⟨t,0,none⟩)] L i 0 r true d2.out (a5.out 0 oO) a2 (λargs W=>by go_simp) (λW l j m=>by rw[Ag];exact cs.out W (l) j 0 m oO) (λW l j m=>by rw[Ag];exact cs.out W (l) j 1 m oO)).mono ?_;rintro e v0 ⟨rfl,D,n⟩;have y:Hid (BP f.heap.size f v0 u (iL L true i++sL L true i 1)):=by show BP _ _ _ _ _;rw[a6.out 0];exact D
   have bi:Hid (aK o v0):=n;clear D n;go_wp2_with fail
   refine(jl f.heap.size f _ u (iL L true i++sL L true i 1) 95 #[.pointer (some ⟨p,0,none⟩),.pointer (some ⟨t,0,none⟩),.pointer (some ⟨lb,0,none⟩)] L i 1 r true y.out (a5.out 1 oO) a2 (λargs W=>by go_simp) (λW l j m=>by rw[kP];exact cv.out W ((bi.out.trans l)) j 0 m oO) (λW l j m=>by rw[kP];exact cv.out W ((bi.out.trans l)) j 1 m oO)).mono ?_;rintro e v1 ⟨rfl,D,n⟩;have z:Hid (BP f.heap.size f v1 u (iL L true i++sL L true i 2)):=by show BP _ _ _ _ _;rw[a6.out 1];exact D
   have bo:Hid (aK o v1):=bi.out.trans n;clear D n;go_wp2_with fail
   refine(jl f.heap.size f _ u (iL L true i++sL L true i 2) 96 #[.pointer (some ⟨p,0,none⟩),.pointer (some ⟨lb,0,none⟩),.pointer (some ⟨t,0,none⟩)] L i 2 r true z.out (a5.out 2 oO) a2 (λargs W=>by go_simp) (λW l j m=>by rw[kP];exact cx.out W ((bo.out.trans l)) j 0 m oO) (λW l j m=>by rw[kP];exact cx.out W ((bo.out.trans l)) j 1 m oO)).mono ?_;rintro e b1 ⟨rfl,D,n⟩;have H:Hid (BP f.heap.size f b1 u (iL L true i++sL L true i 3)):=by show BP _ _ _ _ _;rw[a6.out 2];exact D
   have bq:Hid (aK o b1):=bo.out.trans n;clear D n;go_wp2_with fail
   refine(jl f.heap.size f _ u (iL L true i++sL L true i 3) 97 #[.pointer (some ⟨p,0,none⟩),.pointer (some ⟨lb,0,none⟩),.pointer (some ⟨t,0,none⟩)] L i 3 r true H.out (a5.out 3 oO) a2 (λargs W=>by go_simp) (λW l j m=>by rw[kP];exact c2.out W ((bq.out.trans l)) j 0 m oO) (λW l j m=>by rw[kP];exact c2.out W ((bq.out.trans l)) j 1 m oO)).mono ?_;rintro e b2 ⟨rfl,D,n⟩;have d3:Hid (BP f.heap.size f b2 u (iL L true i++sL L true i 4)):=by show BP _ _ _ _ _;rw[a6.out 3];exact D
   have d4:Hid (aK o b2):=bq.out.trans n;clear D n;have d5:Hid (iL L true (i+1)=iL L true i++sL L true i 4):=tR L true i;go_wp2;exact⟨⟨i+1,by omega,by go_num,by rw[d5.out];exact d3.out,S.out.trans d4.out⟩,by simp[intOf];omega⟩
  ·obtain rfl:i=L:=oO;obtain⟨A,c8,b3,b4⟩:=G.out.1.X;have C:wr.cell? ⟨u,0,none⟩=some (.slice A (iL i true i).length c8):=b3.cell 0 _ rfl;have d6:=Lib.hid b4;have d7:=Lib.hid G.out.1.B;clear b3 b4;go_wp2;go_ret;exact⟨_,rfl,(fM.aI d6.out).mono ci.out.size,ae ci.out d7.out⟩
theorem En (L:Nat) (w:World) (J:L<=32):Calls Tryz.prog 46 #[aP L false] w λe w'=>∃v,e= .returned v/\fM w.heap.size w' v (bp L false)/\Below w.heap.size w w':=by
 obtain⟨c4,c5,c9,da,dd⟩:=info_parts sw;have M:=eP w L false;have de:Hid (∀W,Calls Tryz.prog 92 #[aP L false] W λe w'=>∃hb x,e= .returned (.func (Fn.func 138) #[] #[.pointer (some ⟨hb,0,none⟩),.pointer (some ⟨x,0,none⟩)])/\(false=false->HC L w' hb x)/\Below W.heap.size W w'):=λW=>r7 L false W J;have b5:Hid (∀W,Calls Tryz.prog 85 #[aP L false] W λe w'=>e= .returned (.int .i64 ((aC L false:Nat):Int))/\Below W.heap.size W w'):=λW=>q9 L false W J;have b6:Hid (∀W,Calls Tryz.prog 89 #[aP L false] W λe w'=>e= .returned (.int .i64 ((ja L false:Nat):Int))/\Below W.heap.size W w'):=λW=>vj L false W J;have X:Hid (L<=32):=J;have dl:=Lib.hid (jK (c:=false) J);have dn:=Lib.hid (room_le (c:=false) J);obtain⟨bs,bt⟩:=dl.out;have c3:=dn.out;obtain⟨N,b7⟩:∃N,N=aC L false-1:=⟨_,rfl⟩;have cp:((aC L false:Nat):Int)-1=(N:Int):=oO;have ds:=Lib.hid b7;have ec:N<=141:=oO;obtain⟨R,G⟩:∃R,R=ja L false:=⟨_,rfl⟩;rw[<-G]at b6 c3;clear b7 G;obtain⟨B,hB⟩:∃B,B=aC L false:=⟨_,rfl⟩;rw[<-hB]at b5 bs bt cp;clear hB;obtain⟨al,P⟩:∃al,al=w.alloc (bE L false):=⟨_,rfl⟩;have dv:Hid (Below w.heap.size w al):=by show Below _ _ _;rw[P];exact ax _ _
 have Y:Hid (aa al w.heap.size #[.int .i64 L,.bool false] 60):=by show aa _ _ _ _;rw[P];exact aa.new _ _ _ _ oS
 rw[<-P]at M;obtain⟨D,F⟩:=M.out _ (Below.refl _ _);rw[P]at D F;have dx:∀(W:World) (a:Addr) (g:Fn) (b c:Array Value),(store a (.func g b c)).run Tryz.prog W=stored Tryz.prog W a (.func g b c) .plain:=λW a g b c=>run_store _ W a _ _ rfl;go_enter Tryz.func46,Tryz.ntmps46
 go_wp2_with(first
  |(go_at_call 92;refine(de.out _).mono ?_;rintro e K ⟨hb,x,rfl,b8,bb⟩;rw[<-P]at bb;have z:=Lib.hid bb;have b9:=Lib.hid b8;clear bb b8 D F;obtain⟨D,F⟩:=M.out _ z.out;have a7:w.heap.size<K.heap.size:=au (Y.out.below z.out))
  |(go_at_call 85;refine(b5.out _).mono ?_;rintro e O ⟨rfl,ca⟩;have C:=Lib.hid ca;clear ca D F;obtain⟨D,F⟩:=M.out _ (ae (ah z.out _) C.out);have c6:w.heap.size<O.heap.size:=au (Y.out.below (ae (ah z.out _) C.out)))
  |(go_at_call 89;refine(b6.out _).mono ?_;rintro e f ⟨rfl,cb⟩;have H:=Lib.hid cb;clear cb D F;obtain⟨D,F⟩:=M.out _ (ae (ah (ae (ah z.out _) C.out) _) H.out);have s3:w.heap.size<f.heap.size:=au (Y.out.below (ae (ah (ae (ah z.out _) C.out) _) H.out)))
  |(at_make;refine wpList_make_own _ rfl _ _ _ rfl f.heap.size 47 c4 _ 2 Tryz.underlying40 c5 c9 da .i64 .i64 _ R rfl rfl (by first|rfl|omega) (by rw[dd];omega) oM (Nat.le_refl _) ?_;intro am cq hg;have dy:=Lib.hid cq;have a0:Hid (Below f.heap.size f am):=(Below.refl _ _).grown hg (Nat.le_refl _) (λq hq=>by cases hq);clear cq hg D F;obtain⟨D,F⟩:=M.out _ (ae (ae (ah (ae (ah z.out _) C.out) _) H.out) a0.out);have c7:w.heap.size<am.heap.size:=au (Y.out.below (ae (ae (ah (ae (ah z.out _) C.out) _) H.out) a0.out))))
 obtain⟨y,Z⟩:∃y,y=am.alloc (.cells #[.slice (some ⟨f.heap.size,0,none⟩) 0 R] 40):=⟨_,rfl⟩;obtain⟨u,a1⟩:∃u,u=am.heap.size:=⟨_,rfl⟩;have Q:Hid (Below f.heap.size f y):=by show Below _ _ _;rw[Z];exact ah a0.out _
 obtain⟨p,bd⟩:∃p,p=K.heap.size:=⟨_,rfl⟩;obtain⟨lb,be⟩:∃lb,lb=O.heap.size:=⟨_,rfl⟩;have ce:aa (K.alloc (.cells #[.func (Fn.func 138) #[] #[.pointer (some ⟨hb,0,none⟩),.pointer (some ⟨x,0,none⟩)]] 77)) K.heap.size #[.func (Fn.func 138) #[] #[.pointer (some ⟨hb,0,none⟩),.pointer (some ⟨x,0,none⟩)]] 77:=aa.new _ _ _ _ oS;have ch:aa (O.alloc (.cells #[.int .i64 (N:Int)] 3)) O.heap.size #[.int .i64 (N:Int)] 3:=aa.new _ _ _ _ oS;have ab:Below O.heap.size O f:=cP H.out;have dz:Hid (mv L false p lb hb x y):=by
  show mv _ _ _ _ _ _ _;refine⟨?_,?_,λe=>?_⟩
  ·rw[bd];exact((ce.below C.out).below ab).below Q.out
  ·rw[be,<-ds.out];exact(ch.below H.out).below Q.out
  ·have bv:Below K.heap.size K y:=ae (ae (cP C.out) ab) Q.out;have bx:HC L K hb x:=by first|exact b9.out e|exact b9.out trivial|cases e
   exact⟨bx.1.below bv,bx.2.below bv⟩
 have ci:Hid (Below w.heap.size w f):=ae dv.out (ae z.out (ae (cP C.out) ab));have bf:Hid (aa y w.heap.size #[.int .i64 L,.bool false] 60):=((((Y.out.below z.out).below (cP C.out)).below ab)).below Q.out;have ck:Hid (BP f.heap.size f y u (iL L false 0)):=by
  show BP _ _ _ _ _;refine⟨Q.out,⟨some ⟨f.heap.size,0,none⟩,R,?_,?_⟩,?_,?_⟩
  ·show aa _ _ #[.slice (some ⟨f.heap.size,0,none⟩) 0 R] _;rw[Z,a1];exact aa.new _ _ _ _ oS
  ·show World.ownsRow _ _ _ _ (.slice (some ⟨f.heap.size,0,none⟩) 0 R) 0 [];rw[Z];exact ar dy.out (ax _ _)
  ·rw[a1];exact a0.out.size
  ·exact Q.out.size
 have ap:y.cell? ⟨w.heap.size,0,none⟩=some (.int .i64 L):=bf.out.cell 0 _ rfl;rw[<-Z,<-a1,<-bd,<-be];have S:Hid (aK y y):=aK.refl _;clear a7 c6 s3 c7 dx Z a1 bd be ce ch ab D F P cp c3 bs bt;go_wp2;clear ap;go_loopw [23] (λa8 wr=>∃i:Nat,i<=L/\a8= .int .i64 i/\Hid (BP f.heap.size f wr u (iL L false i)/\aK y wr)) (λa8 _=>L-(intOf a8).toNat)
 case atStart=>exact⟨0,Nat.zero_le _,rfl,ck.out,S.out⟩
 case round=>
  clear ck S;obtain⟨i,d9,rfl,G⟩:=hrel;by_cases dE:i<L
  ·obtain⟨d,bz⟩:∃d,d=L-i:=⟨_,rfl⟩;have d0:(L:Int)-(i:Int)=(d:Int):=oO;obtain⟨r,av⟩:∃r,r=rN L false i:=⟨_,rfl⟩;have a2:r<=140:=by rw[av];exact Fs J
   have T:=Lib.hid av;have d1:4* (d:Int)+12=(r:Int):=by have a9:=Kv L false i;simp at a9;rw[av,a9,bz];omega
   have ea:d<=32:=oO;obtain⟨o,ac⟩:∃o,o=wr.alloc (.cells #[.int .i64 (i:Int)] 3):=⟨_,rfl⟩;obtain⟨t,U⟩:∃t,t=wr.heap.size:=⟨_,rfl⟩;have co:Hid (Below wr.heap.size wr o):=by show Below _ _ _;rw[ac];exact ax _ _
   have ad:Hid (aa o t #[.int .i64 (i:Int)] 3):=by show aa _ _ _ _;rw[ac,U];exact aa.new _ _ _ _ oS
   have S:Hid (aK y o):=G.out.2.trans (aK.below co.out);have d2:Hid (BP f.heap.size f o u (iL L false i++sL L false i 0)):=by show BP _ _ _ _ _;rw[show sL L false i 0=[]from rfl,List.append_nil];exact G.out.1.below co.out
   have a3:Hid (mv L false p lb hb x o):=dz.out.dD S.out;have ap:o.cell? ⟨w.heap.size,0,none⟩=some (.int .i64 L):=(bf.out.iZ S.out rfl).cell 0 _ rfl;have V:o.cell? ⟨t,0,none⟩=some (.int .i64 (i:Int)):=ad.out.cell 0 _ rfl;have a4:=Lib.hid dE;have a7:w.heap.size<wr.heap.size:=au (bf.out.iZ G.out.2 rfl);rw[ac]at ap V;rw[U]at V;clear bz av;have cs:Hid (∀W,aK o W->∀j k,j<r->k<2->Calls Tryz.prog 94 #[.int .i64 ((j:Nat):Int),.int .i64 ((k:Nat):Int),.pointer (some ⟨p,0,none⟩),.pointer (some ⟨t,0,none⟩)] W λe w'=>e= .returned (.agg #[.int .i64 (((eO L false i 0 j k).1:Nat):Int),.int .i64 (((eO L false i 0 j k).2:Nat):Int)])/\Below W.heap.size W w'):=by
    show∀W,_;intro W l j k m n;exact DW L false p lb t hb x i j k W X.out a4.out (by rw[<-T.out];exact m) n (a3.out.dD l) (ad.out.iZ l rfl)
   have cv:Hid (∀W,aK o W->∀j k,j<r->k<2->Calls Tryz.prog 95 #[.int .i64 ((j:Nat):Int),.int .i64 ((k:Nat):Int),.pointer (some ⟨p,0,none⟩),.pointer (some ⟨t,0,none⟩),.pointer (some ⟨lb,0,none⟩)] W λe w'=>e= .returned (.agg #[.int .i64 (((eO L false i 1 j k).1:Nat):Int),.int .i64 (((eO L false i 1 j k).2:Nat):Int)])/\Below W.heap.size W w'):=by
    show∀W,_;intro W l j k m n;exact D0 L false p lb t hb x i j k W X.out a4.out (by rw[<-T.out];exact m) n (a3.out.dD l) (ad.out.iZ l rfl)
   have cx:Hid (∀W,aK o W->∀j k,j<r->k<2->Calls Tryz.prog 96 #[.int .i64 ((j:Nat):Int),.int .i64 ((k:Nat):Int),.pointer (some ⟨p,0,none⟩),.pointer (some ⟨lb,0,none⟩),.pointer (some ⟨t,0,none⟩)] W λe w'=>e= .returned (.agg #[.int .i64 (((eO L false i 2 j k).1:Nat):Int),.int .i64 (((eO L false i 2 j k).2:Nat):Int)])/\Below W.heap.size W w'):=by
    show∀W,_;intro W l j k m n;exact D2 L false p lb t hb x i j k W X.out a4.out (by rw[<-T.out];exact m) n (a3.out.dD l) (ad.out.iZ l rfl)
   have c2:Hid (∀W,aK o W->∀j k,j<r->k<2->Calls Tryz.prog 97 #[.int .i64 ((j:Nat):Int),.int .i64 ((k:Nat):Int),.pointer (some ⟨p,0,none⟩),.pointer (some ⟨lb,0,none⟩),.pointer (some ⟨t,0,none⟩)] W λe w'=>e= .returned (.agg #[.int .i64 (((eO L false i 3 j k).1:Nat):Int),.int .i64 (((eO L false i 3 j k).2:Nat):Int)])/\Below W.heap.size W w'):=by
    show∀W,_;intro W l j k m n;exact D4 L false p lb t hb x i j k W X.out a4.out (by rw[<-T.out];exact m) n (a3.out.dD l) (ad.out.iZ l rfl)
   have a5:Hid (∀s,s<=4->(iL L false i++sL L false i s).length<=60000):=by
    show∀s,_;intro s hs;rw[List.length_append,nE];have a9:=Fq (c:=false) X.out i;have d8:s* (2* rN L false i)<=4* (2* 140):=Nat.mul_le_mul hs (by rw[<-T.out];omega);omega
   have a6:Hid (∀s,iL L false i++sL L false i (s+1)=iL L false i++sL L false i s++jL L false i s r):=by
    show∀s,_;intro s;rw[yh,<-T.out,List.append_assoc]
   rw[<-U]at V;rw[U]at V;go_wp2_with fail
   rw[<-ac,<-U];clear a7 ap V d1 d0 ac U;refine(jl f.heap.size f _ u (iL L false i++sL L false i 0) 94 #[.pointer (some ⟨p,0,none⟩),.pointer (some ⟨t,0,none⟩)] L i 0 r false d2.out (a5.out 0 oO) a2 (λargs W=>by go_simp) (λW l j m=>by rw[Ag];exact cs.out W (l) j 0 m oO) (λW l j m=>by rw[Ag];exact cs.out W (l) j 1 m oO)).mono ?_;rintro e v0 ⟨rfl,E,n⟩;have z:Hid (BP f.heap.size f v0 u (iL L false i++sL L false i 1)):=by show BP _ _ _ _ _;rw[a6.out 0];exact E
   have bi:Hid (aK o v0):=n;clear E n;go_wp2_with fail
   refine(jl f.heap.size f _ u (iL L false i++sL L false i 1) 95 #[.pointer (some ⟨p,0,none⟩),.pointer (some ⟨t,0,none⟩),.pointer (some ⟨lb,0,none⟩)] L i 1 r false z.out (a5.out 1 oO) a2 (λargs W=>by go_simp) (λW l j m=>by rw[kP];exact cv.out W ((bi.out.trans l)) j 0 m oO) (λW l j m=>by rw[kP];exact cv.out W ((bi.out.trans l)) j 1 m oO)).mono ?_;rintro e v1 ⟨rfl,E,n⟩;have C:Hid (BP f.heap.size f v1 u (iL L false i++sL L false i 2)):=by show BP _ _ _ _ _;rw[a6.out 1];exact E
   have bo:Hid (aK o v1):=bi.out.trans n;clear E n;go_wp2_with fail
   refine(jl f.heap.size f _ u (iL L false i++sL L false i 2) 96 #[.pointer (some ⟨p,0,none⟩),.pointer (some ⟨lb,0,none⟩),.pointer (some ⟨t,0,none⟩)] L i 2 r false C.out (a5.out 2 oO) a2 (λargs W=>by go_simp) (λW l j m=>by rw[kP];exact cx.out W ((bo.out.trans l)) j 0 m oO) (λW l j m=>by rw[kP];exact cx.out W ((bo.out.trans l)) j 1 m oO)).mono ?_;rintro e b1 ⟨rfl,E,n⟩;have H:Hid (BP f.heap.size f b1 u (iL L false i++sL L false i 3)):=by show BP _ _ _ _ _;rw[a6.out 2];exact E
   have bq:Hid (aK o b1):=bo.out.trans n;clear E n;go_wp2_with fail
   refine(jl f.heap.size f _ u (iL L false i++sL L false i 3) 97 #[.pointer (some ⟨p,0,none⟩),.pointer (some ⟨lb,0,none⟩),.pointer (some ⟨t,0,none⟩)] L i 3 r false H.out (a5.out 3 oO) a2 (λargs W=>by go_simp) (λW l j m=>by rw[kP];exact c2.out W ((bq.out.trans l)) j 0 m oO) (λW l j m=>by rw[kP];exact c2.out W ((bq.out.trans l)) j 1 m oO)).mono ?_;rintro e b2 ⟨rfl,E,n⟩;have d3:Hid (BP f.heap.size f b2 u (iL L false i++sL L false i 4)):=by show BP _ _ _ _ _;rw[a6.out 3];exact E
   have d4:Hid (aK o b2):=bq.out.trans n;clear E n;have d5:Hid (iL L false (i+1)=iL L false i++sL L false i 4):=tR L false i;go_wp2;exact⟨⟨i+1,by omega,by go_num,by rw[d5.out];exact d3.out,S.out.trans d4.out⟩,by simp[intOf];omega⟩
  ·obtain rfl:i=L:=oO;obtain⟨A,c8,b3,b4⟩:=G.out.1.X;have D:wr.cell? ⟨u,0,none⟩=some (.slice A (iL i false i).length c8):=b3.cell 0 _ rfl;have d6:=Lib.hid b4;have d7:=Lib.hid G.out.1.B;clear b3 b4;go_wp2;go_ret;exact⟨_,rfl,(fM.aI d6.out).mono ci.out.size,ae ci.out d7.out⟩
theorem vt (L:Nat) (c:Bool) (w:World) (a:L<=32):Calls Tryz.prog 46 #[aP L c] w λe w'=>∃v,e= .returned v/\fM w.heap.size w' v (bp L c)/\Below w.heap.size w w':=by
 cases c with
 |true=>exact Hh L w a
 |false=>exact En L w a
end
end Go.Proofs.YtmnlkganmgcpbaaGreatDoor
