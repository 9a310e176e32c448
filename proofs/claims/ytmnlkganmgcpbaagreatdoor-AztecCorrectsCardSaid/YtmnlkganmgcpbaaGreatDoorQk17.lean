import Derived.Test.YtmnlkganmgcpbaaGreatDoorQk16
set_option maxRecDepth 100000
set_option maxHeartbeats 4000000
set_option linter.unusedVariables false
set_option linter.unusedSectionVars false
set_option linter.unusedSimpArgs false
namespace Go.Proofs.YtmnlkganmgcpbaaGreatDoor
section
open Go.RowKit
theorem aa.fg {w:World} {g:Nat} {u:Value} {a:TypeId} (h:aa w g #[u] a) (v:Value):aa (w.setCell ⟨g,0,none⟩ v) g #[v] a:=heap_setCell_same w g 0 #[u] a v h
theorem aa.bP {w:World} {g:Nat} {b:Array Value} {a:TypeId} (h:aa w g b a) (p:Addr) (v:Value) (c:g≠p.block):aa (w.setCell p v) g b a:=(Below.heap_setCell _ _ _ _ c).trans h
theorem yo (L:Nat) (w:World) (b8:L<=32):Calls Tryz.prog 92 #[bD L false] w λe w'=>∃hb g6,e= .returned (.func (Fn.func 138) #[] #[.pointer (some ⟨hb,0,none⟩),.pointer (some ⟨g6,0,none⟩)])/\HC L w' hb g6/\Below w.heap.size w w':=by
 have l:=eK w L false;have o:Hid (∀W,Calls Tryz.prog 36 #[bD L false] W λe w'=>e= .returned (.int .i64 ((aj L false:Nat):Int))/\Below W.heap.size W w'):=λW=>mJ L false W b8;have j:Hid (∀W,Calls Tryz.prog 85 #[bD L false] W λe w'=>e= .returned (.int .i64 ((aC L false:Nat):Int))/\Below W.heap.size W w'):=λW=>ri L false W b8;have rb:=Lib.hid (jM (c:=false) b8);have rc:=Lib.hid (gj (c:=false) b8);unfold HC aQ;generalize aC L false=B at*;generalize aj L false=S at*;obtain⟨wf,wl⟩:=rb.out;obtain⟨wm,wn⟩:=rc.out;obtain⟨g,iv⟩:∃g,g=B/2:=⟨_,rfl⟩;obtain⟨f,g7⟩:∃f,f=(S-1)/2:=⟨_,rfl⟩;rw[<-iv,<-g7];have e1:(B:Int)/2=(g:Int):=oO;obtain⟨b9,rd⟩:∃b9,b9=S-1:=⟨_,rfl⟩;have wo:IntKind.i64.wrap ((S:Int)-1)=(b9:Int):=by rw[aF _ oO oO];omega
 have e4:(b9:Int)/2=(f:Int):=oO;have wp:IntKind.i64.wrap (f:Int)=(f:Int):=aF _ oO oO;have wq:IntKind.i64.wrap (g:Int)=(g:Int):=aF _ oO oO;have ws:g<=200:=oO;have wt:f<=200:=oO;clear iv g7 rd;obtain⟨a,ab⟩:∃a,a=w.alloc (bC L false):=⟨_,rfl⟩;have r:Hid (Below w.heap.size w a):=by show Below _ _ _;rw[ab];exact ax _ _
 rw[<-ab]at l;have V:Hid (af a a.drew):=ai (Below.refl _ _);obtain⟨g8,g9⟩:=l.out _ (Below.refl _ _);rw[ab]at g8 g9;go_enter Tryz.func92,Tryz.ntmps92;go_wp2;rw[<-ab];clear g8 g9 ab;refine uY (S:=af a) (.br [(false,0),(false,4)] [1,7,8] (λk=>if k=1 then .br [(false,2),(false,3)] [5,7,8] (λk=>if k=5 then .br [(false,6)] [7,8] (λk=>if k=7 then .last [(true,8),(true,9),(true,10)]else .last [(true,7),(true,9),(true,10)])else if k=7 then .br [] [5,8] (λk=>if k=5 then .last [(false,6),(true,8),(true,9),(true,10)]else .last [(true,5),(false,6),(true,9),(true,10)])else .br [] [5,7] (λk=>if k=5 then .last [(false,6),(true,7),(true,9),(true,10)]else .last [(true,5),(false,6),(true,9),(true,10)]))else if k=7 then .br [] [1,8] (λk=>if k=1 then .br [(false,2),(false,3)] [5,8] (λk=>if k=5 then .last [(false,6),(true,8),(true,9),(true,10)]else .last [(true,5),(false,6),(true,9),(true,10)])else .last [(true,1),(false,2),(false,3),(true,5),(false,6),(true,9),(true,10)])else .br [] [1,7] (λk=>if k=1 then .br [(false,2),(false,3)] [5,7] (λk=>if k=5 then .last [(false,6),(true,7),(true,9),(true,10)]else .last [(true,5),(false,6),(true,9),(true,10)])else .last [(true,1),(false,2),(false,3),(true,5),(false,6),(true,9),(true,10)]))) oK oK V.out ?_;simp only[reduceIte,Nat.reduceEqDiff,wpTree,attachW,List.getElem?_cons_zero,List.getElem?_cons_succ]
 repeat refine zO l.out ?_
 refine ag ?_;intro k i;simp only[List.mem_cons,List.not_mem_nil,or_false]at i;rcases i with rfl|rfl|rfl
 ·simp only[reduceIte,Nat.reduceEqDiff,wpTree,attachW,List.getElem?_cons_zero,List.getElem?_cons_succ];refine zZ ?_;refine(o.out _).mono ?_;rintro e s ⟨rfl,hb⟩;have X:Hid (af a s):=ae V.out hb;clear hb;refine⟨_,rfl,X.out,jO ?_⟩;refine ag ?_
  (try simp only[reduceIte,Nat.reduceEqDiff,wpTree,attachW,List.getElem?_cons_zero,List.getElem?_cons_succ])
  repeat refine zO l.out ?_
  refine ag ?_;intro k i;simp only[List.mem_cons,List.not_mem_nil,or_false]at i;rcases i with rfl|rfl|rfl
  ·simp only[reduceIte,Nat.reduceEqDiff,wpTree,attachW,List.getElem?_cons_zero,List.getElem?_cons_succ];refine zZ ?_;refine(j.out _).mono ?_;rintro e t ⟨rfl,hb⟩;have ac:Hid (af a t):=ae X.out hb;clear hb;refine⟨_,rfl,ac.out,jO ?_⟩;refine ag ?_
   (try simp only[reduceIte,Nat.reduceEqDiff,wpTree,attachW,List.getElem?_cons_zero,List.getElem?_cons_succ])
   repeat refine zO l.out ?_
   refine ag ?_;intro k i;simp only[List.mem_cons,List.not_mem_nil,or_false]at i;rcases i with rfl|rfl
   ·simp only[reduceIte,Nat.reduceEqDiff,wpTree,attachW,List.getElem?_cons_zero,List.getElem?_cons_succ];obtain⟨u,ce⟩:∃d,d=t.alloc (.cells #[.int .i64 0] 3):=⟨_,rfl⟩;obtain⟨x,fd⟩:∃b,b=t.heap.size:=⟨_,rfl⟩;have rf:Hid (Below t.heap.size t u):=by show Below _ _ _;rw[ce];exact ax _ _
    have fe:Hid (af a u):=ae ac.out rf.out;have ib:Hid (aa u x #[.int .i64 0] 3/\a.heap.size<=x):=by show _/\_;rw[ce,fd];exact⟨aa.new _ _ _ _ oS,ac.out.size⟩
    have mb:=Lib.hid ib.out.1;have sb:=Lib.hid ib.out.2;refine' zQ (v:= .pointer (some ⟨x,0,none⟩)) (w':=u) rfl (by rw[fd,ce];go_simp) fe.out ?_;clear ce fd;refine ag ?_
    (try simp only[reduceIte,Nat.reduceEqDiff,wpTree,attachW,List.getElem?_cons_zero,List.getElem?_cons_succ])
    obtain⟨Y,ch⟩:∃d,d=u.alloc (.cells #[.int .i64 0] 3):=⟨_,rfl⟩;obtain⟨y,ci⟩:∃b,b=u.heap.size:=⟨_,rfl⟩;have ix:Hid (Below u.heap.size u Y):=by show Below _ _ _;rw[ch];exact ax _ _
    have iz:Hid (af a Y):=ae fe.out ix.out;have ih:Hid (aa Y y #[.int .i64 0] 3/\a.heap.size<=y):=by show _/\_;rw[ch,ci];exact⟨aa.new _ _ _ _ oS,fe.out.size⟩
    have ii:Hid (x≠y):=by show _≠_;rw[ci];exact Nat.ne_of_lt (ar mb.out)
    have f6:=Lib.hid (mb.out.below ix.out);have rs:=Lib.hid ih.out.1;have sd:=Lib.hid ih.out.2;refine' zQ (v:= .pointer (some ⟨y,0,none⟩)) (w':=Y) rfl (by rw[ci,ch];go_simp) iz.out ?_;clear ch ci;obtain⟨ca,ad⟩:∃d,d=Y.setCell ⟨x,0,none⟩ (.int .i64 (f:Int)):=⟨_,rfl⟩;have i0:Hid (af a ca):=by show Below _ _ _;rw[ad];exact iz.out.setCell (by exact sb.out) _
    have rt:Hid (aa ca x #[.int .i64 (f:Int)] 3):=by show aa _ _ _ _;rw[ad];exact f6.out.fg _
    have dk:=Lib.hid (rs.out.bP ⟨x,0,none⟩ (.int .i64 (f:Int)) (ii.out.symm));rw[<-ad]at dk;refine' aX (w':=ca) rfl (by rw[ad];exact bH rfl ⟨x,0,none⟩ f rfl rfl (f6.out.cell 0 _ rfl) (frozen_of_row _ _ _ _ _ f6.out)) i0.out ?_;simp only[yQ,yU,yX,yY];clear ad;obtain⟨fc,al⟩:∃d,d=ca.setCell ⟨y,0,none⟩ (.int .i64 (g:Int)):=⟨_,rfl⟩;have i1:Hid (af a fc):=by show Below _ _ _;rw[al];exact i0.out.setCell (by exact sd.out) _
    have rx:Hid (aa fc y #[.int .i64 (g:Int)] 3):=by show aa _ _ _ _;rw[al];exact dk.out.fg _
    have md:=Lib.hid (rt.out.bP ⟨y,0,none⟩ (.int .i64 (g:Int)) (ii.out));rw[<-al]at md;refine' aX (w':=fc) rfl (by rw[al];exact bH rfl ⟨y,0,none⟩ g rfl rfl (dk.out.cell 0 _ rfl) (frozen_of_row _ _ _ _ _ dk.out)) i1.out ?_;simp only[yQ,yU,yX,yY];clear al;refine ag ?_;clear j o;go_wp2;go_ret;exact⟨_,_,rfl,⟨rx.out,md.out⟩,ae r.out i1.out⟩
   ·simp only[reduceIte,Nat.reduceEqDiff,wpTree,attachW,List.getElem?_cons_zero,List.getElem?_cons_succ];obtain⟨z,ck⟩:∃d,d=t.alloc (.cells #[.int .i64 0] 3):=⟨_,rfl⟩;obtain⟨A,fl⟩:∃b,b=t.heap.size:=⟨_,rfl⟩;have rg:Hid (Below t.heap.size t z):=by show Below _ _ _;rw[ck];exact ax _ _
    have fn:Hid (af a z):=ae ac.out rg.out;have io:Hid (aa z A #[.int .i64 0] 3/\a.heap.size<=A):=by show _/\_;rw[ck,fl];exact⟨aa.new _ _ _ _ oS,ac.out.size⟩
    have me:=Lib.hid io.out.1;have sf:=Lib.hid io.out.2;refine' zQ (v:= .pointer (some ⟨A,0,none⟩)) (w':=z) rfl (by rw[fl,ck];go_simp) fn.out ?_;clear ck fl;refine ag ?_
    (try simp only[reduceIte,Nat.reduceEqDiff,wpTree,attachW,List.getElem?_cons_zero,List.getElem?_cons_succ])
    obtain⟨Z,co⟩:∃d,d=z.alloc (.cells #[.int .i64 0] 3):=⟨_,rfl⟩;obtain⟨C,cp⟩:∃b,b=z.heap.size:=⟨_,rfl⟩;have i2:Hid (Below z.heap.size z Z):=by show Below _ _ _;rw[co];exact ax _ _
    have i3:Hid (af a Z):=ae fn.out i2.out;have ip:Hid (aa Z C #[.int .i64 0] 3/\a.heap.size<=C):=by show _/\_;rw[co,cp];exact⟨aa.new _ _ _ _ oS,fn.out.size⟩
    have it:Hid (A≠C):=by show _≠_;rw[cp];exact Nat.ne_of_lt (ar me.out)
    have r0:=Lib.hid (me.out.below i2.out);have f7:=Lib.hid ip.out.1;have sm:=Lib.hid ip.out.2;refine' zQ (v:= .pointer (some ⟨C,0,none⟩)) (w':=Z) rfl (by rw[cp,co];go_simp) i3.out ?_;clear co cp;obtain⟨cb,am⟩:∃d,d=Z.setCell ⟨C,0,none⟩ (.int .i64 (f:Int)):=⟨_,rfl⟩;have i4:Hid (af a cb):=by show Below _ _ _;rw[am];exact i3.out.setCell (by exact sm.out) _
    have r1:Hid (aa cb C #[.int .i64 (f:Int)] 3):=by show aa _ _ _ _;rw[am];exact f7.out.fg _
    have dl:=Lib.hid (r0.out.bP ⟨C,0,none⟩ (.int .i64 (f:Int)) (it.out.symm.symm));rw[<-am]at dl;refine' aX (w':=cb) rfl (by rw[am];exact bH rfl ⟨C,0,none⟩ f rfl rfl (f7.out.cell 0 _ rfl) (frozen_of_row _ _ _ _ _ f7.out)) i4.out ?_;simp only[yQ,yU,yX,yY];clear am;obtain⟨fo,a8⟩:∃d,d=cb.setCell ⟨A,0,none⟩ (.int .i64 (g:Int)):=⟨_,rfl⟩;have mk:Hid (af a fo):=by show Below _ _ _;rw[a8];exact i4.out.setCell (by exact sf.out) _
    have sn:Hid (aa fo A #[.int .i64 (g:Int)] 3):=by show aa _ _ _ _;rw[a8];exact dl.out.fg _
    have pp:=Lib.hid (r1.out.bP ⟨A,0,none⟩ (.int .i64 (g:Int)) (it.out.symm));rw[<-a8]at pp;refine' aX (w':=fo) rfl (by rw[a8];exact bH rfl ⟨A,0,none⟩ g rfl rfl (dl.out.cell 0 _ rfl) (frozen_of_row _ _ _ _ _ dl.out)) mk.out ?_;simp only[yQ,yU,yX,yY];clear a8;refine ag ?_;clear j o;go_wp2;go_ret;exact⟨_,_,rfl,⟨sn.out,pp.out⟩,ae r.out mk.out⟩
  ·simp only[reduceIte,Nat.reduceEqDiff,wpTree,attachW,List.getElem?_cons_zero,List.getElem?_cons_succ];obtain⟨D,dn⟩:∃d,d=s.alloc (.cells #[.int .i64 0] 3):=⟨_,rfl⟩;obtain⟨p,f8⟩:∃b,b=s.heap.size:=⟨_,rfl⟩;have r2:Hid (Below s.heap.size s D):=by show Below _ _ _;rw[dn];exact ax _ _
   have dp:Hid (af a D):=ae X.out r2.out;have i5:Hid (aa D p #[.int .i64 0] 3/\a.heap.size<=p):=by show _/\_;rw[dn,f8];exact⟨aa.new _ _ _ _ oS,X.out.size⟩
   have gp:=Lib.hid i5.out.1;have q4:=Lib.hid i5.out.2;refine' zQ (v:= .pointer (some ⟨p,0,none⟩)) (w':=D) rfl (by rw[f8,dn];go_simp) dp.out ?_;clear dn f8;refine ag ?_
   (try simp only[reduceIte,Nat.reduceEqDiff,wpTree,attachW,List.getElem?_cons_zero,List.getElem?_cons_succ])
   refine ag ?_;intro k i;simp only[List.mem_cons,List.not_mem_nil,or_false]at i;rcases i with rfl|rfl
   ·simp only[reduceIte,Nat.reduceEqDiff,wpTree,attachW,List.getElem?_cons_zero,List.getElem?_cons_succ];refine zZ ?_;refine(j.out _).mono ?_;rintro e ap ⟨rfl,hb⟩;have f9:Hid (af a ap):=ae dp.out hb;have pu:=Lib.hid (gp.out.below hb);clear hb;refine⟨_,rfl,f9.out,jO ?_⟩;refine ag ?_
    (try simp only[reduceIte,Nat.reduceEqDiff,wpTree,attachW,List.getElem?_cons_zero,List.getElem?_cons_succ])
    repeat refine zO l.out ?_
    obtain⟨av,ds⟩:∃d,d=ap.alloc (.cells #[.int .i64 0] 3):=⟨_,rfl⟩;obtain⟨E,dv⟩:∃b,b=ap.heap.size:=⟨_,rfl⟩;have ml:Hid (Below ap.heap.size ap av):=by show Below _ _ _;rw[ds];exact ax _ _
    have mm:Hid (af a av):=ae f9.out ml.out;have i6:Hid (aa av E #[.int .i64 0] 3/\a.heap.size<=E):=by show _/\_;rw[ds,dv];exact⟨aa.new _ _ _ _ oS,f9.out.size⟩
    have i7:Hid (p≠E):=by show _≠_;rw[dv];exact Nat.ne_of_lt (ar pu.out)
    have gq:=Lib.hid (pu.out.below ml.out);have sp:=Lib.hid i6.out.1;have v2:=Lib.hid i6.out.2;refine' zQ (v:= .pointer (some ⟨E,0,none⟩)) (w':=av) rfl (by rw[dv,ds];go_simp) mm.out ?_;clear ds dv;obtain⟨cq,a9⟩:∃d,d=av.setCell ⟨p,0,none⟩ (.int .i64 (f:Int)):=⟨_,rfl⟩;have mo:Hid (af a cq):=by show Below _ _ _;rw[a9];exact mm.out.setCell (by exact q4.out) _
    have st:Hid (aa cq p #[.int .i64 (f:Int)] 3):=by show aa _ _ _ _;rw[a9];exact gq.out.fg _
    have es:=Lib.hid (sp.out.bP ⟨p,0,none⟩ (.int .i64 (f:Int)) (i7.out.symm));rw[<-a9]at es;refine' aX (w':=cq) rfl (by rw[a9];exact bH rfl ⟨p,0,none⟩ f rfl rfl (gq.out.cell 0 _ rfl) (frozen_of_row _ _ _ _ _ gq.out)) mo.out ?_;simp only[yQ,yU,yX,yY];clear a9;obtain⟨fr,bb⟩:∃d,d=cq.setCell ⟨E,0,none⟩ (.int .i64 (g:Int)):=⟨_,rfl⟩;have mp:Hid (af a fr):=by show Below _ _ _;rw[bb];exact mo.out.setCell (by exact v2.out) _
    have sv:Hid (aa fr E #[.int .i64 (g:Int)] 3):=by show aa _ _ _ _;rw[bb];exact es.out.fg _
    have pv:=Lib.hid (st.out.bP ⟨E,0,none⟩ (.int .i64 (g:Int)) (i7.out));rw[<-bb]at pv;refine' aX (w':=fr) rfl (by rw[bb];exact bH rfl ⟨E,0,none⟩ g rfl rfl (es.out.cell 0 _ rfl) (frozen_of_row _ _ _ _ _ es.out)) mp.out ?_;simp only[yQ,yU,yX,yY];clear bb;refine ag ?_;clear j o;go_wp2;go_ret;exact⟨_,_,rfl,⟨sv.out,pv.out⟩,ae r.out mp.out⟩
   ·simp only[reduceIte,Nat.reduceEqDiff,wpTree,attachW,List.getElem?_cons_zero,List.getElem?_cons_succ];obtain⟨cs,dx⟩:∃d,d=D.alloc (.cells #[.int .i64 0] 3):=⟨_,rfl⟩;obtain⟨F,dy⟩:∃b,b=D.heap.size:=⟨_,rfl⟩;have ms:Hid (Below D.heap.size D cs):=by show Below _ _ _;rw[dx];exact ax _ _
    have mt:Hid (af a cs):=ae dp.out ms.out;have i8:Hid (aa cs F #[.int .i64 0] 3/\a.heap.size<=F):=by show _/\_;rw[dx,dy];exact⟨aa.new _ _ _ _ oS,dp.out.size⟩
    have i9:Hid (p≠F):=by show _≠_;rw[dy];exact Nat.ne_of_lt (ar gp.out)
    have sy:=Lib.hid (gp.out.below ms.out);have sO:=Lib.hid i8.out.1;have v3:=Lib.hid i8.out.2;refine' zQ (v:= .pointer (some ⟨F,0,none⟩)) (w':=cs) rfl (by rw[dy,dx];go_simp) mt.out ?_;clear dx dy;refine ag ?_
    (try simp only[reduceIte,Nat.reduceEqDiff,wpTree,attachW,List.getElem?_cons_zero,List.getElem?_cons_succ])
    refine zZ ?_;refine(j.out _).mono ?_;rintro e jp ⟨rfl,hb⟩;have m0:Hid (af a jp):=ae mt.out hb;have gs:=Lib.hid (sy.out.below hb);have s0:=Lib.hid (sO.out.below hb);clear hb;refine⟨_,rfl,m0.out,jO ?_⟩
    repeat refine zO l.out ?_
    obtain⟨cv,bd⟩:∃d,d=jp.setCell ⟨p,0,none⟩ (.int .i64 (f:Int)):=⟨_,rfl⟩;have m1:Hid (af a cv):=by show Below _ _ _;rw[bd];exact m0.out.setCell (by exact q4.out) _
    have s1:Hid (aa cv p #[.int .i64 (f:Int)] 3):=by show aa _ _ _ _;rw[bd];exact gs.out.fg _
    have et:=Lib.hid (s0.out.bP ⟨p,0,none⟩ (.int .i64 (f:Int)) (i9.out.symm));rw[<-bd]at et;refine' aX (w':=cv) rfl (by rw[bd];exact bH rfl ⟨p,0,none⟩ f rfl rfl (gs.out.cell 0 _ rfl) (frozen_of_row _ _ _ _ _ gs.out)) m1.out ?_;simp only[yQ,yU,yX,yY];clear bd;obtain⟨fv,be⟩:∃d,d=cv.setCell ⟨F,0,none⟩ (.int .i64 (g:Int)):=⟨_,rfl⟩;have m2:Hid (af a fv):=by show Below _ _ _;rw[be];exact m1.out.setCell (by exact v3.out) _
    have s2:Hid (aa fv F #[.int .i64 (g:Int)] 3):=by show aa _ _ _ _;rw[be];exact et.out.fg _
    have p0:=Lib.hid (s1.out.bP ⟨F,0,none⟩ (.int .i64 (g:Int)) (i9.out));rw[<-be]at p0;refine' aX (w':=fv) rfl (by rw[be];exact bH rfl ⟨F,0,none⟩ g rfl rfl (et.out.cell 0 _ rfl) (frozen_of_row _ _ _ _ _ et.out)) m2.out ?_;simp only[yQ,yU,yX,yY];clear be;refine ag ?_;clear j o;go_wp2;go_ret;exact⟨_,_,rfl,⟨s2.out,p0.out⟩,ae r.out m2.out⟩
  ·simp only[reduceIte,Nat.reduceEqDiff,wpTree,attachW,List.getElem?_cons_zero,List.getElem?_cons_succ];obtain⟨G,dz⟩:∃d,d=s.alloc (.cells #[.int .i64 0] 3):=⟨_,rfl⟩;obtain⟨q,gb⟩:∃b,b=s.heap.size:=⟨_,rfl⟩;have r3:Hid (Below s.heap.size s G):=by show Below _ _ _;rw[dz];exact ax _ _
   have dE:Hid (af a G):=ae X.out r3.out;have jr:Hid (aa G q #[.int .i64 0] 3/\a.heap.size<=q):=by show _/\_;rw[dz,gb];exact⟨aa.new _ _ _ _ oS,X.out.size⟩
   have gt:=Lib.hid jr.out.1;have q5:=Lib.hid jr.out.2;refine' zQ (v:= .pointer (some ⟨q,0,none⟩)) (w':=G) rfl (by rw[gb,dz];go_simp) dE.out ?_;clear dz gb;refine ag ?_
   (try simp only[reduceIte,Nat.reduceEqDiff,wpTree,attachW,List.getElem?_cons_zero,List.getElem?_cons_succ])
   refine ag ?_;intro k i;simp only[List.mem_cons,List.not_mem_nil,or_false]at i;rcases i with rfl|rfl
   ·simp only[reduceIte,Nat.reduceEqDiff,wpTree,attachW,List.getElem?_cons_zero,List.getElem?_cons_succ];refine zZ ?_;refine(j.out _).mono ?_;rintro e a0 ⟨rfl,hb⟩;have gc:Hid (af a a0):=ae dE.out hb;have p3:=Lib.hid (gt.out.below hb);clear hb;refine⟨_,rfl,gc.out,jO ?_⟩;refine ag ?_
    (try simp only[reduceIte,Nat.reduceEqDiff,wpTree,attachW,List.getElem?_cons_zero,List.getElem?_cons_succ])
    repeat refine zO l.out ?_
    obtain⟨a1,d0⟩:∃d,d=a0.alloc (.cells #[.int .i64 0] 3):=⟨_,rfl⟩;obtain⟨H,d1⟩:∃b,b=a0.heap.size:=⟨_,rfl⟩;have m3:Hid (Below a0.heap.size a0 a1):=by show Below _ _ _;rw[d0];exact ax _ _
    have m4:Hid (af a a1):=ae gc.out m3.out;have jv:Hid (aa a1 H #[.int .i64 0] 3/\a.heap.size<=H):=by show _/\_;rw[d0,d1];exact⟨aa.new _ _ _ _ oS,gc.out.size⟩
    have j0:Hid (q≠H):=by show _≠_;rw[d1];exact Nat.ne_of_lt (ar p3.out)
    have s4:=Lib.hid (p3.out.below m3.out);have gv:=Lib.hid jv.out.1;have v4:=Lib.hid jv.out.2;refine' zQ (v:= .pointer (some ⟨H,0,none⟩)) (w':=a1) rfl (by rw[d1,d0];go_simp) m4.out ?_;clear d0 d1;obtain⟨cx,bf⟩:∃d,d=a1.setCell ⟨H,0,none⟩ (.int .i64 (f:Int)):=⟨_,rfl⟩;have m5:Hid (af a cx):=by show Below _ _ _;rw[bf];exact m4.out.setCell (by exact v4.out) _
    have ta:Hid (aa cx H #[.int .i64 (f:Int)] 3):=by show aa _ _ _ _;rw[bf];exact gv.out.fg _
    have ew:=Lib.hid (s4.out.bP ⟨H,0,none⟩ (.int .i64 (f:Int)) (j0.out.symm.symm));rw[<-bf]at ew;refine' aX (w':=cx) rfl (by rw[bf];exact bH rfl ⟨H,0,none⟩ f rfl rfl (gv.out.cell 0 _ rfl) (frozen_of_row _ _ _ _ _ gv.out)) m5.out ?_;simp only[yQ,yU,yX,yY];clear bf;obtain⟨fx,bi⟩:∃d,d=cx.setCell ⟨q,0,none⟩ (.int .i64 (g:Int)):=⟨_,rfl⟩;have m6:Hid (af a fx):=by show Below _ _ _;rw[bi];exact m5.out.setCell (by exact q5.out) _
    have tb:Hid (aa fx q #[.int .i64 (g:Int)] 3):=by show aa _ _ _ _;rw[bi];exact ew.out.fg _
    have p4:=Lib.hid (ta.out.bP ⟨q,0,none⟩ (.int .i64 (g:Int)) (j0.out.symm));rw[<-bi]at p4;refine' aX (w':=fx) rfl (by rw[bi];exact bH rfl ⟨q,0,none⟩ g rfl rfl (ew.out.cell 0 _ rfl) (frozen_of_row _ _ _ _ _ ew.out)) m6.out ?_;simp only[yQ,yU,yX,yY];clear bi;refine ag ?_;clear j o;go_wp2;go_ret;exact⟨_,_,rfl,⟨tb.out,p4.out⟩,ae r.out m6.out⟩
   ·simp only[reduceIte,Nat.reduceEqDiff,wpTree,attachW,List.getElem?_cons_zero,List.getElem?_cons_succ];obtain⟨cN,d2⟩:∃d,d=G.alloc (.cells #[.int .i64 0] 3):=⟨_,rfl⟩;obtain⟨J,d3⟩:∃b,b=G.heap.size:=⟨_,rfl⟩;have m7:Hid (Below G.heap.size G cN):=by show Below _ _ _;rw[d2];exact ax _ _
    have m8:Hid (af a cN):=ae dE.out m7.out;have j2:Hid (aa cN J #[.int .i64 0] 3/\a.heap.size<=J):=by show _/\_;rw[d2,d3];exact⟨aa.new _ _ _ _ oS,dE.out.size⟩
    have kc:Hid (q≠J):=by show _≠_;rw[d3];exact Nat.ne_of_lt (ar gt.out)
    have tg:=Lib.hid (gt.out.below m7.out);have tk:=Lib.hid j2.out.1;have v5:=Lib.hid j2.out.2;refine' zQ (v:= .pointer (some ⟨J,0,none⟩)) (w':=cN) rfl (by rw[d3,d2];go_simp) m8.out ?_;clear d2 d3;refine ag ?_
    (try simp only[reduceIte,Nat.reduceEqDiff,wpTree,attachW,List.getElem?_cons_zero,List.getElem?_cons_succ])
    refine zZ ?_;refine(j.out _).mono ?_;rintro e kd ⟨rfl,hb⟩;have m9:Hid (af a kd):=ae m8.out hb;have gw:=Lib.hid (tk.out.below hb);have tl:=Lib.hid (tg.out.below hb);clear hb;refine⟨_,rfl,m9.out,jO ?_⟩
    repeat refine zO l.out ?_
    obtain⟨c2,bo⟩:∃d,d=kd.setCell ⟨J,0,none⟩ (.int .i64 (f:Int)):=⟨_,rfl⟩;have na:Hid (af a c2):=by show Below _ _ _;rw[bo];exact m9.out.setCell (by exact v5.out) _
    have tp:Hid (aa c2 J #[.int .i64 (f:Int)] 3):=by show aa _ _ _ _;rw[bo];exact gw.out.fg _
    have ex:=Lib.hid (tl.out.bP ⟨J,0,none⟩ (.int .i64 (f:Int)) (kc.out.symm.symm));rw[<-bo]at ex;refine' aX (w':=c2) rfl (by rw[bo];exact bH rfl ⟨J,0,none⟩ f rfl rfl (gw.out.cell 0 _ rfl) (frozen_of_row _ _ _ _ _ gw.out)) na.out ?_;simp only[yQ,yU,yX,yY];clear bo;obtain⟨fz,bq⟩:∃d,d=c2.setCell ⟨q,0,none⟩ (.int .i64 (g:Int)):=⟨_,rfl⟩;have nb:Hid (af a fz):=by show Below _ _ _;rw[bq];exact na.out.setCell (by exact q5.out) _
    have tq:Hid (aa fz q #[.int .i64 (g:Int)] 3):=by show aa _ _ _ _;rw[bq];exact ex.out.fg _
    have p5:=Lib.hid (tp.out.bP ⟨q,0,none⟩ (.int .i64 (g:Int)) (kc.out.symm));rw[<-bq]at p5;refine' aX (w':=fz) rfl (by rw[bq];exact bH rfl ⟨q,0,none⟩ g rfl rfl (ex.out.cell 0 _ rfl) (frozen_of_row _ _ _ _ _ ex.out)) nb.out ?_;simp only[yQ,yU,yX,yY];clear bq;refine ag ?_;clear j o;go_wp2;go_ret;exact⟨_,_,rfl,⟨tq.out,p5.out⟩,ae r.out nb.out⟩
 ·simp only[reduceIte,Nat.reduceEqDiff,wpTree,attachW,List.getElem?_cons_zero,List.getElem?_cons_succ];obtain⟨K,d4⟩:∃d,d=a.drew.alloc (.cells #[.int .i64 0] 3):=⟨_,rfl⟩;obtain⟨m,ge⟩:∃b,b=a.drew.heap.size:=⟨_,rfl⟩;have r4:Hid (Below a.drew.heap.size a.drew K):=by show Below _ _ _;rw[d4];exact ax _ _
  have d5:Hid (af a K):=ae V.out r4.out;have ks:Hid (aa K m #[.int .i64 0] 3/\a.heap.size<=m):=by show _/\_;rw[d4,ge];exact⟨aa.new _ _ _ _ oS,V.out.size⟩
  have gx:=Lib.hid ks.out.1;have g4:=Lib.hid ks.out.2;refine' zQ (v:= .pointer (some ⟨m,0,none⟩)) (w':=K) rfl (by rw[ge,d4];go_simp) d5.out ?_;clear d4 ge;refine ag ?_
  (try simp only[reduceIte,Nat.reduceEqDiff,wpTree,attachW,List.getElem?_cons_zero,List.getElem?_cons_succ])
  refine ag ?_;intro k i;simp only[List.mem_cons,List.not_mem_nil,or_false]at i;rcases i with rfl|rfl
  ·simp only[reduceIte,Nat.reduceEqDiff,wpTree,attachW,List.getElem?_cons_zero,List.getElem?_cons_succ];refine zZ ?_;refine(o.out _).mono ?_;rintro e a2 ⟨rfl,hb⟩;have d6:Hid (af a a2):=ae d5.out hb;have gy:=Lib.hid (gx.out.below hb);clear hb;refine⟨_,rfl,d6.out,jO ?_⟩;refine ag ?_
   (try simp only[reduceIte,Nat.reduceEqDiff,wpTree,attachW,List.getElem?_cons_zero,List.getElem?_cons_succ])
   repeat refine zO l.out ?_
   refine ag ?_;intro k i;simp only[List.mem_cons,List.not_mem_nil,or_false]at i;rcases i with rfl|rfl
   ·simp only[reduceIte,Nat.reduceEqDiff,wpTree,attachW,List.getElem?_cons_zero,List.getElem?_cons_succ];refine zZ ?_;refine(j.out _).mono ?_;rintro e a3 ⟨rfl,hb⟩;have gg:Hid (af a a3):=ae d6.out hb;have p6:=Lib.hid (gy.out.below hb);clear hb;refine⟨_,rfl,gg.out,jO ?_⟩;refine ag ?_
    (try simp only[reduceIte,Nat.reduceEqDiff,wpTree,attachW,List.getElem?_cons_zero,List.getElem?_cons_succ])
    repeat refine zO l.out ?_
    obtain⟨a4,d7⟩:∃d,d=a3.alloc (.cells #[.int .i64 0] 3):=⟨_,rfl⟩;obtain⟨M,d8⟩:∃b,b=a3.heap.size:=⟨_,rfl⟩;have nc:Hid (Below a3.heap.size a3 a4):=by show Below _ _ _;rw[d7];exact ax _ _
    have nl:Hid (af a a4):=ae gg.out nc.out;have kw:Hid (aa a4 M #[.int .i64 0] 3/\a.heap.size<=M):=by show _/\_;rw[d7,d8];exact⟨aa.new _ _ _ _ oS,gg.out.size⟩
    have kz:Hid (m≠M):=by show _≠_;rw[d8];exact Nat.ne_of_lt (ar p6.out)
    have gz:=Lib.hid (p6.out.below nc.out);have tr:=Lib.hid kw.out.1;have v6:=Lib.hid kw.out.2;refine' zQ (v:= .pointer (some ⟨M,0,none⟩)) (w':=a4) rfl (by rw[d8,d7];go_simp) nl.out ?_;clear d7 d8;obtain⟨c3,bs⟩:∃d,d=a4.setCell ⟨m,0,none⟩ (.int .i64 (f:Int)):=⟨_,rfl⟩;have no:Hid (af a c3):=by show Below _ _ _;rw[bs];exact nl.out.setCell (by exact g4.out) _
    have ts:Hid (aa c3 m #[.int .i64 (f:Int)] 3):=by show aa _ _ _ _;rw[bs];exact gz.out.fg _
    have ey:=Lib.hid (tr.out.bP ⟨m,0,none⟩ (.int .i64 (f:Int)) (kz.out.symm));rw[<-bs]at ey;refine' aX (w':=c3) rfl (by rw[bs];exact bH rfl ⟨m,0,none⟩ f rfl rfl (gz.out.cell 0 _ rfl) (frozen_of_row _ _ _ _ _ gz.out)) no.out ?_;simp only[yQ,yU,yX,yY];clear bs;obtain⟨f0,bt⟩:∃d,d=c3.setCell ⟨M,0,none⟩ (.int .i64 (g:Int)):=⟨_,rfl⟩;have np:Hid (af a f0):=by show Below _ _ _;rw[bt];exact no.out.setCell (by exact v6.out) _
    have tv:Hid (aa f0 M #[.int .i64 (g:Int)] 3):=by show aa _ _ _ _;rw[bt];exact ey.out.fg _
    have qi:=Lib.hid (ts.out.bP ⟨M,0,none⟩ (.int .i64 (g:Int)) (kz.out));rw[<-bt]at qi;refine' aX (w':=f0) rfl (by rw[bt];exact bH rfl ⟨M,0,none⟩ g rfl rfl (ey.out.cell 0 _ rfl) (frozen_of_row _ _ _ _ _ ey.out)) np.out ?_;simp only[yQ,yU,yX,yY];clear bt;refine ag ?_;clear j o;go_wp2;go_ret;exact⟨_,_,rfl,⟨tv.out,qi.out⟩,ae r.out np.out⟩
   ·simp only[reduceIte,Nat.reduceEqDiff,wpTree,attachW,List.getElem?_cons_zero,List.getElem?_cons_succ];obtain⟨c4,d9⟩:∃d,d=a2.alloc (.cells #[.int .i64 0] 3):=⟨_,rfl⟩;obtain⟨N,ea⟩:∃b,b=a2.heap.size:=⟨_,rfl⟩;have nz:Hid (Below a2.heap.size a2 c4):=by show Below _ _ _;rw[d9];exact ax _ _
    have n0:Hid (af a c4):=ae d6.out nz.out;have k1:Hid (aa c4 N #[.int .i64 0] 3/\a.heap.size<=N):=by show _/\_;rw[d9,ea];exact⟨aa.new _ _ _ _ oS,d6.out.size⟩
    have k2:Hid (m≠N):=by show _≠_;rw[ea];exact Nat.ne_of_lt (ar gy.out)
    have tx:=Lib.hid (gy.out.below nz.out);have ty:=Lib.hid k1.out.1;have v7:=Lib.hid k1.out.2;refine' zQ (v:= .pointer (some ⟨N,0,none⟩)) (w':=c4) rfl (by rw[ea,d9];go_simp) n0.out ?_;clear d9 ea;refine ag ?_
    (try simp only[reduceIte,Nat.reduceEqDiff,wpTree,attachW,List.getElem?_cons_zero,List.getElem?_cons_succ])
    refine zZ ?_;refine(j.out _).mono ?_;rintro e la ⟨rfl,hb⟩;have n5:Hid (af a la):=ae n0.out hb;have gC:=Lib.hid (tx.out.below hb);have t0:=Lib.hid (ty.out.below hb);clear hb;refine⟨_,rfl,n5.out,jO ?_⟩
    repeat refine zO l.out ?_
    obtain⟨c5,bv⟩:∃d,d=la.setCell ⟨m,0,none⟩ (.int .i64 (f:Int)):=⟨_,rfl⟩;have n6:Hid (af a c5):=by show Below _ _ _;rw[bv];exact n5.out.setCell (by exact g4.out) _
    have t1:Hid (aa c5 m #[.int .i64 (f:Int)] 3):=by show aa _ _ _ _;rw[bv];exact gC.out.fg _
    have ez:=Lib.hid (t0.out.bP ⟨m,0,none⟩ (.int .i64 (f:Int)) (k2.out.symm));rw[<-bv]at ez;refine' aX (w':=c5) rfl (by rw[bv];exact bH rfl ⟨m,0,none⟩ f rfl rfl (gC.out.cell 0 _ rfl) (frozen_of_row _ _ _ _ _ gC.out)) n6.out ?_;simp only[yQ,yU,yX,yY];clear bv;obtain⟨f1,bx⟩:∃d,d=c5.setCell ⟨N,0,none⟩ (.int .i64 (g:Int)):=⟨_,rfl⟩;have n7:Hid (af a f1):=by show Below _ _ _;rw[bx];exact n6.out.setCell (by exact v7.out) _
    have t2:Hid (aa f1 N #[.int .i64 (g:Int)] 3):=by show aa _ _ _ _;rw[bx];exact ez.out.fg _
    have qr:=Lib.hid (t1.out.bP ⟨N,0,none⟩ (.int .i64 (g:Int)) (k2.out));rw[<-bx]at qr;refine' aX (w':=f1) rfl (by rw[bx];exact bH rfl ⟨N,0,none⟩ g rfl rfl (ez.out.cell 0 _ rfl) (frozen_of_row _ _ _ _ _ ez.out)) n7.out ?_;simp only[yQ,yU,yX,yY];clear bx;refine ag ?_;clear j o;go_wp2;go_ret;exact⟨_,_,rfl,⟨t2.out,qr.out⟩,ae r.out n7.out⟩
  ·simp only[reduceIte,Nat.reduceEqDiff,wpTree,attachW,List.getElem?_cons_zero,List.getElem?_cons_succ];obtain⟨c6,ec⟩:∃d,d=K.alloc (.cells #[.int .i64 0] 3):=⟨_,rfl⟩;obtain⟨O,ed⟩:∃b,b=K.heap.size:=⟨_,rfl⟩;have n8:Hid (Below K.heap.size K c6):=by show Below _ _ _;rw[ec];exact ax _ _
   have n9:Hid (af a c6):=ae d5.out n8.out;have lc:Hid (aa c6 O #[.int .i64 0] 3/\a.heap.size<=O):=by show _/\_;rw[ec,ed];exact⟨aa.new _ _ _ _ oS,d5.out.size⟩
   have li:Hid (m≠O):=by show _≠_;rw[ed];exact Nat.ne_of_lt (ar gx.out)
   have t3:=Lib.hid (gx.out.below n8.out);have t4:=Lib.hid lc.out.1;have v8:=Lib.hid lc.out.2;refine' zQ (v:= .pointer (some ⟨O,0,none⟩)) (w':=c6) rfl (by rw[ed,ec];go_simp) n9.out ?_;clear ec ed;refine ag ?_
   (try simp only[reduceIte,Nat.reduceEqDiff,wpTree,attachW,List.getElem?_cons_zero,List.getElem?_cons_succ])
   refine zZ ?_;refine(o.out _).mono ?_;rintro e rl ⟨rfl,hb⟩;have ob:Hid (af a rl):=ae n9.out hb;have t5:=Lib.hid (t3.out.below hb);have t6:=Lib.hid (t4.out.below hb);clear hb;refine⟨_,rfl,ob.out,jO ?_⟩
   repeat refine zO l.out ?_
   refine zZ ?_;refine(j.out _).mono ?_;rintro e ll ⟨rfl,hb⟩;have oi:Hid (af a ll):=ae ob.out hb;have gD:=Lib.hid (t5.out.below hb);have t7:=Lib.hid (t6.out.below hb);clear hb;refine⟨_,rfl,oi.out,jO ?_⟩
   repeat refine zO l.out ?_
   obtain⟨c7,bz⟩:∃d,d=ll.setCell ⟨m,0,none⟩ (.int .i64 (f:Int)):=⟨_,rfl⟩;have oj:Hid (af a c7):=by show Below _ _ _;rw[bz];exact oi.out.setCell (by exact g4.out) _
   have t8:Hid (aa c7 m #[.int .i64 (f:Int)] 3):=by show aa _ _ _ _;rw[bz];exact gD.out.fg _
   have eA:=Lib.hid (t7.out.bP ⟨m,0,none⟩ (.int .i64 (f:Int)) (li.out.symm));rw[<-bz]at eA;refine' aX (w':=c7) rfl (by rw[bz];exact bH rfl ⟨m,0,none⟩ f rfl rfl (gD.out.cell 0 _ rfl) (frozen_of_row _ _ _ _ _ gD.out)) oj.out ?_;simp only[yQ,yU,yX,yY];clear bz;obtain⟨f2,b1⟩:∃d,d=c7.setCell ⟨O,0,none⟩ (.int .i64 (g:Int)):=⟨_,rfl⟩;have ol:Hid (af a f2):=by show Below _ _ _;rw[b1];exact oj.out.setCell (by exact v8.out) _
   have t9:Hid (aa f2 O #[.int .i64 (g:Int)] 3):=by show aa _ _ _ _;rw[b1];exact eA.out.fg _
   have qs:=Lib.hid (t8.out.bP ⟨O,0,none⟩ (.int .i64 (g:Int)) (li.out));rw[<-b1]at qs;refine' aX (w':=f2) rfl (by rw[b1];exact bH rfl ⟨O,0,none⟩ g rfl rfl (eA.out.cell 0 _ rfl) (frozen_of_row _ _ _ _ _ eA.out)) ol.out ?_;simp only[yQ,yU,yX,yY];clear b1;refine ag ?_;clear j o;go_wp2;go_ret;exact⟨_,_,rfl,⟨t9.out,qs.out⟩,ae r.out ol.out⟩
 ·simp only[reduceIte,Nat.reduceEqDiff,wpTree,attachW,List.getElem?_cons_zero,List.getElem?_cons_succ];obtain⟨P,ef⟩:∃d,d=a.drew.alloc (.cells #[.int .i64 0] 3):=⟨_,rfl⟩;obtain⟨n,gi⟩:∃b,b=a.drew.heap.size:=⟨_,rfl⟩;have r5:Hid (Below a.drew.heap.size a.drew P):=by show Below _ _ _;rw[ef];exact ax _ _
  have eh:Hid (af a P):=ae V.out r5.out;have lm:Hid (aa P n #[.int .i64 0] 3/\a.heap.size<=n):=by show _/\_;rw[ef,gi];exact⟨aa.new _ _ _ _ oS,V.out.size⟩
  have gN:=Lib.hid lm.out.1;have g5:=Lib.hid lm.out.2;refine' zQ (v:= .pointer (some ⟨n,0,none⟩)) (w':=P) rfl (by rw[gi,ef];go_simp) eh.out ?_;clear ef gi;refine ag ?_
  (try simp only[reduceIte,Nat.reduceEqDiff,wpTree,attachW,List.getElem?_cons_zero,List.getElem?_cons_succ])
  refine ag ?_;intro k i;simp only[List.mem_cons,List.not_mem_nil,or_false]at i;rcases i with rfl|rfl
  ·simp only[reduceIte,Nat.reduceEqDiff,wpTree,attachW,List.getElem?_cons_zero,List.getElem?_cons_succ];refine zZ ?_;refine(o.out _).mono ?_;rintro e a5 ⟨rfl,hb⟩;have ei:Hid (af a a5):=ae eh.out hb;have g0:=Lib.hid (gN.out.below hb);clear hb;refine⟨_,rfl,ei.out,jO ?_⟩;refine ag ?_
   (try simp only[reduceIte,Nat.reduceEqDiff,wpTree,attachW,List.getElem?_cons_zero,List.getElem?_cons_succ])
   repeat refine zO l.out ?_
   refine ag ?_;intro k i;simp only[List.mem_cons,List.not_mem_nil,or_false]at i;rcases i with rfl|rfl
   ·simp only[reduceIte,Nat.reduceEqDiff,wpTree,attachW,List.getElem?_cons_zero,List.getElem?_cons_succ];refine zZ ?_;refine(j.out _).mono ?_;rintro e a6 ⟨rfl,hb⟩;have go:Hid (af a a6):=ae ei.out hb;have q0:=Lib.hid (g0.out.below hb);clear hb;refine⟨_,rfl,go.out,jO ?_⟩;refine ag ?_
    (try simp only[reduceIte,Nat.reduceEqDiff,wpTree,attachW,List.getElem?_cons_zero,List.getElem?_cons_succ])
    repeat refine zO l.out ?_
    obtain⟨a7,ek⟩:∃d,d=a6.alloc (.cells #[.int .i64 0] 3):=⟨_,rfl⟩;obtain⟨Q,el⟩:∃b,b=a6.heap.size:=⟨_,rfl⟩;have oo:Hid (Below a6.heap.size a6 a7):=by show Below _ _ _;rw[ek];exact ax _ _
    have op:Hid (af a a7):=ae go.out oo.out;have ls:Hid (aa a7 Q #[.int .i64 0] 3/\a.heap.size<=Q):=by show _/\_;rw[ek,el];exact⟨aa.new _ _ _ _ oS,go.out.size⟩
    have lv:Hid (n≠Q):=by show _≠_;rw[el];exact Nat.ne_of_lt (ar q0.out)
    have ub:=Lib.hid (q0.out.below oo.out);have g1:=Lib.hid ls.out.1;have v9:=Lib.hid ls.out.2;refine' zQ (v:= .pointer (some ⟨Q,0,none⟩)) (w':=a7) rfl (by rw[el,ek];go_simp) op.out ?_;clear ek el;obtain⟨c8,b2⟩:∃d,d=a7.setCell ⟨Q,0,none⟩ (.int .i64 (f:Int)):=⟨_,rfl⟩;have os:Hid (af a c8):=by show Below _ _ _;rw[b2];exact op.out.setCell (by exact v9.out) _
    have ue:Hid (aa c8 Q #[.int .i64 (f:Int)] 3):=by show aa _ _ _ _;rw[b2];exact g1.out.fg _
    have e0:=Lib.hid (ub.out.bP ⟨Q,0,none⟩ (.int .i64 (f:Int)) (lv.out.symm.symm));rw[<-b2]at e0;refine' aX (w':=c8) rfl (by rw[b2];exact bH rfl ⟨Q,0,none⟩ f rfl rfl (g1.out.cell 0 _ rfl) (frozen_of_row _ _ _ _ _ g1.out)) os.out ?_;simp only[yQ,yU,yX,yY];clear b2;obtain⟨f3,b3⟩:∃d,d=c8.setCell ⟨n,0,none⟩ (.int .i64 (g:Int)):=⟨_,rfl⟩;have ot:Hid (af a f3):=by show Below _ _ _;rw[b3];exact os.out.setCell (by exact g5.out) _
    have ul:Hid (aa f3 n #[.int .i64 (g:Int)] 3):=by show aa _ _ _ _;rw[b3];exact e0.out.fg _
    have q1:=Lib.hid (ue.out.bP ⟨n,0,none⟩ (.int .i64 (g:Int)) (lv.out.symm));rw[<-b3]at q1;refine' aX (w':=f3) rfl (by rw[b3];exact bH rfl ⟨n,0,none⟩ g rfl rfl (e0.out.cell 0 _ rfl) (frozen_of_row _ _ _ _ _ e0.out)) ot.out ?_;simp only[yQ,yU,yX,yY];clear b3;refine ag ?_;clear j o;go_wp2;go_ret;exact⟨_,_,rfl,⟨ul.out,q1.out⟩,ae r.out ot.out⟩
   ·simp only[reduceIte,Nat.reduceEqDiff,wpTree,attachW,List.getElem?_cons_zero,List.getElem?_cons_succ];obtain⟨c9,em⟩:∃d,d=a5.alloc (.cells #[.int .i64 0] 3):=⟨_,rfl⟩;obtain⟨T,en⟩:∃b,b=a5.heap.size:=⟨_,rfl⟩;have ov:Hid (Below a5.heap.size a5 c9):=by show Below _ _ _;rw[em];exact ax _ _
    have o0:Hid (af a c9):=ae ei.out ov.out;have lw:Hid (aa c9 T #[.int .i64 0] 3/\a.heap.size<=T):=by show _/\_;rw[em,en];exact⟨aa.new _ _ _ _ oS,ei.out.size⟩
    have lx:Hid (n≠T):=by show _≠_;rw[en];exact Nat.ne_of_lt (ar g0.out)
    have un:=Lib.hid (g0.out.below ov.out);have up:=Lib.hid lw.out.1;have wa:=Lib.hid lw.out.2;refine' zQ (v:= .pointer (some ⟨T,0,none⟩)) (w':=c9) rfl (by rw[en,em];go_simp) o0.out ?_;clear em en;refine ag ?_
    (try simp only[reduceIte,Nat.reduceEqDiff,wpTree,attachW,List.getElem?_cons_zero,List.getElem?_cons_succ])
    refine zZ ?_;refine(j.out _).mono ?_;rintro e ly ⟨rfl,hb⟩;have o1:Hid (af a ly):=ae o0.out hb;have g2:=Lib.hid (up.out.below hb);have us:=Lib.hid (un.out.below hb);clear hb;refine⟨_,rfl,o1.out,jO ?_⟩
    repeat refine zO l.out ?_
    obtain⟨da,b4⟩:∃d,d=ly.setCell ⟨T,0,none⟩ (.int .i64 (f:Int)):=⟨_,rfl⟩;have o2:Hid (af a da):=by show Below _ _ _;rw[b4];exact o1.out.setCell (by exact wa.out) _
    have ut:Hid (aa da T #[.int .i64 (f:Int)] 3):=by show aa _ _ _ _;rw[b4];exact g2.out.fg _
    have e9:=Lib.hid (us.out.bP ⟨T,0,none⟩ (.int .i64 (f:Int)) (lx.out.symm.symm));rw[<-b4]at e9;refine' aX (w':=da) rfl (by rw[b4];exact bH rfl ⟨T,0,none⟩ f rfl rfl (g2.out.cell 0 _ rfl) (frozen_of_row _ _ _ _ _ g2.out)) o2.out ?_;simp only[yQ,yU,yX,yY];clear b4;obtain⟨f4,b5⟩:∃d,d=da.setCell ⟨n,0,none⟩ (.int .i64 (g:Int)):=⟨_,rfl⟩;have o3:Hid (af a f4):=by show Below _ _ _;rw[b5];exact o2.out.setCell (by exact g5.out) _
    have vc:Hid (aa f4 n #[.int .i64 (g:Int)] 3):=by show aa _ _ _ _;rw[b5];exact e9.out.fg _
    have q2:=Lib.hid (ut.out.bP ⟨n,0,none⟩ (.int .i64 (g:Int)) (lx.out.symm));rw[<-b5]at q2;refine' aX (w':=f4) rfl (by rw[b5];exact bH rfl ⟨n,0,none⟩ g rfl rfl (e9.out.cell 0 _ rfl) (frozen_of_row _ _ _ _ _ e9.out)) o3.out ?_;simp only[yQ,yU,yX,yY];clear b5;refine ag ?_;clear j o;go_wp2;go_ret;exact⟨_,_,rfl,⟨vc.out,q2.out⟩,ae r.out o3.out⟩
  ·simp only[reduceIte,Nat.reduceEqDiff,wpTree,attachW,List.getElem?_cons_zero,List.getElem?_cons_succ];obtain⟨dd,eq⟩:∃d,d=P.alloc (.cells #[.int .i64 0] 3):=⟨_,rfl⟩;obtain⟨U,er⟩:∃b,b=P.heap.size:=⟨_,rfl⟩;have pb:Hid (Below P.heap.size P dd):=by show Below _ _ _;rw[eq];exact ax _ _
   have pf:Hid (af a dd):=ae eh.out pb.out;have l0:Hid (aa dd U #[.int .i64 0] 3/\a.heap.size<=U):=by show _/\_;rw[eq,er];exact⟨aa.new _ _ _ _ oS,eh.out.size⟩
   have l1:Hid (n≠U):=by show _≠_;rw[er];exact Nat.ne_of_lt (ar gN.out)
   have vq:=Lib.hid (gN.out.below pb.out);have vr:=Lib.hid l0.out.1;have wd:=Lib.hid l0.out.2;refine' zQ (v:= .pointer (some ⟨U,0,none⟩)) (w':=dd) rfl (by rw[er,eq];go_simp) pf.out ?_;clear eq er;refine ag ?_
   (try simp only[reduceIte,Nat.reduceEqDiff,wpTree,attachW,List.getElem?_cons_zero,List.getElem?_cons_succ])
   refine zZ ?_;refine(o.out _).mono ?_;rintro e ro ⟨rfl,hb⟩;have pi:Hid (af a ro):=ae pf.out hb;have vs:=Lib.hid (vr.out.below hb);have vv:=Lib.hid (vq.out.below hb);clear hb;refine⟨_,rfl,pi.out,jO ?_⟩
   repeat refine zO l.out ?_
   refine zZ ?_;refine(j.out _).mono ?_;rintro e l2 ⟨rfl,hb⟩;have pk:Hid (af a l2):=ae pi.out hb;have g3:=Lib.hid (vs.out.below hb);have vG:=Lib.hid (vv.out.below hb);clear hb;refine⟨_,rfl,pk.out,jO ?_⟩
   repeat refine zO l.out ?_
   obtain⟨de,b6⟩:∃d,d=l2.setCell ⟨U,0,none⟩ (.int .i64 (f:Int)):=⟨_,rfl⟩;have pl:Hid (af a de):=by show Below _ _ _;rw[b6];exact pk.out.setCell (by exact wd.out) _
   have v0:Hid (aa de U #[.int .i64 (f:Int)] 3):=by show aa _ _ _ _;rw[b6];exact g3.out.fg _
   have fb:=Lib.hid (vG.out.bP ⟨U,0,none⟩ (.int .i64 (f:Int)) (l1.out.symm.symm));rw[<-b6]at fb;refine' aX (w':=de) rfl (by rw[b6];exact bH rfl ⟨U,0,none⟩ f rfl rfl (g3.out.cell 0 _ rfl) (frozen_of_row _ _ _ _ _ g3.out)) pl.out ?_;simp only[yQ,yU,yX,yY];clear b6;obtain⟨f5,b7⟩:∃d,d=de.setCell ⟨n,0,none⟩ (.int .i64 (g:Int)):=⟨_,rfl⟩;have pm:Hid (af a f5):=by show Below _ _ _;rw[b7];exact pl.out.setCell (by exact g5.out) _
   have v1:Hid (aa f5 n #[.int .i64 (g:Int)] 3):=by show aa _ _ _ _;rw[b7];exact fb.out.fg _
   have q3:=Lib.hid (v0.out.bP ⟨n,0,none⟩ (.int .i64 (g:Int)) (l1.out.symm));rw[<-b7]at q3;refine' aX (w':=f5) rfl (by rw[b7];exact bH rfl ⟨n,0,none⟩ g rfl rfl (fb.out.cell 0 _ rfl) (frozen_of_row _ _ _ _ _ fb.out)) pm.out ?_;simp only[yQ,yU,yX,yY];clear b7;refine ag ?_;clear j o;go_wp2;go_ret;exact⟨_,_,rfl,⟨v1.out,q3.out⟩,ae r.out pm.out⟩
theorem yC (L:Nat) (w:World):Calls Tryz.prog 92 #[bD L true] w λe w'=>e= .returned (.func (Fn.func 137) #[] #[])/\Below w.heap.size w w':=by
 have a:=eK w L true;obtain⟨b,c⟩:=a.out _ (Below.refl _ _);go_enter Tryz.func92,Tryz.ntmps92;go_wp2;go_ret;exact⟨rfl,ax _ _⟩
theorem sx (L:Nat) (c:Bool) (w:World) (b:L<=32):Calls Tryz.prog 92 #[bD L c] w λe w'=>∃hb a,e= .returned (H9 c hb a)/\(c=false->HC L w' hb a)/\Below w.heap.size w w':=by
 cases c with
 |true=>
  refine(yC L w).mono ?_;rintro e w' ⟨rfl,hb⟩;exact⟨0,0,rfl,(λh=>by cases h),hb⟩
 |false=>
  refine(yo L w b).mono ?_;rintro e w' ⟨hb,a,rfl,hc,d⟩;exact⟨hb,a,rfl,λ_=>hc,d⟩
theorem KN (L:Nat) (c:Bool) (i:Nat):rN L c i=if c=true then 4* (L-i)+9 else 4* (L-i)+12:=rfl
def fN (n:Nat) (w:World) (v:Value) (xs:List Pt):Prop:=SP w v xs/\∀A m k a,v= .slice A m k->A=some a->n<=a.block
theorem fN.cd {W:World} {base:Nat} {e:TypeId} {n:Nat} {v:Value} {xs:List Pt} (h:W.ownsRow base e 2 v n (xs.flatMap eS)):fN base W v xs:=by
 refine⟨SP.cd h,λA m k c e1 e2=>?_⟩;subst e1 e2;rcases h.2 with⟨a,-⟩|⟨g,cap,d,a,b,-⟩
 ·cases a
 ·injection a with a _ _;injection a with a;rw[a];exact b
theorem fN.below {n:Nat} {W a:World} {v:Value} {xs:List Pt} (h:fN n W v xs) (hb:Below W.heap.size W a):fN n a v xs:=⟨h.1.below hb,h.2⟩
theorem fN.mono {n m:Nat} {W:World} {v:Value} {xs:List Pt} (h:fN n W v xs) (b:m<=n):fN m W v xs:=⟨h.1,λA a k c e1 e2=>Nat.le_trans b (h.2 A a k c e1 e2)⟩
theorem AL (a b c d:Value):(#[a,b]++#[c,d]:Array Value)=#[a,b,c,d]:=by simp
theorem kJ (a b c d e:Value):(#[a,b]++#[c,d,e]:Array Value)=#[a,b,c,d,e]:=by simp
theorem GL (L:Nat) (w:World) (J:L<=32):Calls Tryz.prog 46 #[bD L true] w λe w'=>∃v,e= .returned v/\fN w.heap.size w' v (aZ L true)/\Below w.heap.size w w':=by
 obtain⟨c3,c4,c8,c9,da⟩:=info_parts sW;have M:=eK w L true;have dd:Hid (∀W,Calls Tryz.prog 92 #[bD L true] W λe w'=>∃hb F,e= .returned (.func (Fn.func 137) #[] #[])/\(true=false->HC L w' hb F)/\Below W.heap.size W w'):=λW=>sx L true W J;have b5:Hid (∀W,Calls Tryz.prog 85 #[bD L true] W λe w'=>e= .returned (.int .i64 ((aC L true:Nat):Int))/\Below W.heap.size W w'):=λW=>ri L true W J;have b6:Hid (∀W,Calls Tryz.prog 89 #[bD L true] W λe w'=>e= .returned (.int .i64 ((ie L true:Nat):Int))/\Below W.heap.size W w'):=λW=>vZ L true W J;have X:Hid (L<=32):=J;have de:=Lib.hid (jM (c:=true) J);have dk:=Lib.hid (room_le (c:=true) J);obtain⟨bs,bt⟩:=de.out;have c2:=dk.out;obtain⟨N,b7⟩:∃N,N=aC L true-1:=⟨_,rfl⟩;have cp:((aC L true:Nat):Int)-1=(N:Int):=oO;have dl:=Lib.hid b7;have d8:N<=141:=oO;obtain⟨R,G⟩:∃R,R=ie L true:=⟨_,rfl⟩;rw[<-G]at b6 c2;clear b7 G;obtain⟨B,hB⟩:∃B,B=aC L true:=⟨_,rfl⟩;rw[<-hB]at b5 bs bt cp;clear hB;obtain⟨al,P⟩:∃al,al=w.alloc (bC L true):=⟨_,rfl⟩;have dn:Hid (Below w.heap.size w al):=by show Below _ _ _;rw[P];exact ax _ _
 have Y:Hid (aa al w.heap.size #[.int .i64 L,.bool true] 60):=by show aa _ _ _ _;rw[P];exact aa.new _ _ _ _ oS
 rw[<-P]at M;obtain⟨C,E⟩:=M.out _ (Below.refl _ _);rw[P]at C E;have dp:∀(W:World) (a:Addr) (g:Fn) (b c:Array Value),(store a (.func g b c)).run Tryz.prog W=stored Tryz.prog W a (.func g b c) .plain:=λW a g b c=>run_store _ W a _ _ rfl;go_enter Tryz.func46,Tryz.ntmps46
 go_wp2_with(first
  |(go_at_call 92;refine(dd.out _).mono ?_;rintro e K ⟨hb,F,rfl,b8,bb⟩;rw[<-P]at bb;have y:=Lib.hid bb;have b9:=Lib.hid b8;clear bb b8 C E;obtain⟨C,E⟩:=M.out _ y.out;have a7:w.heap.size<K.heap.size:=ar (Y.out.below y.out))
  |(go_at_call 85;refine(b5.out _).mono ?_;rintro e O ⟨rfl,ca⟩;have z:=Lib.hid ca;clear ca C E;obtain⟨C,E⟩:=M.out _ (ae (ah y.out _) z.out);have c5:w.heap.size<O.heap.size:=ar (Y.out.below (ae (ah y.out _) z.out)))
  |(go_at_call 89;refine(b6.out _).mono ?_;rintro e f ⟨rfl,cb⟩;have H:=Lib.hid cb;clear cb C E;obtain⟨C,E⟩:=M.out _ (ae (ah (ae (ah y.out _) z.out) _) H.out);have s3:w.heap.size<f.heap.size:=ar (Y.out.below (ae (ah (ae (ah y.out _) z.out) _) H.out)))
  |(at_make;refine wpList_make_own _ rfl _ _ _ rfl f.heap.size 47 c3 _ 2 Tryz.underlying40 c4 c8 c9 .i64 .i64 _ R rfl rfl (by first|rfl|omega) (by rw[da];omega) oM (Nat.le_refl _) ?_;intro am cq hg;have ds:=Lib.hid cq;have a0:Hid (Below f.heap.size f am):=(Below.refl _ _).grown hg (Nat.le_refl _) (λq hq=>by cases hq);clear cq hg C E;obtain⟨C,E⟩:=M.out _ (ae (ae (ah (ae (ah y.out _) z.out) _) H.out) a0.out);have c6:w.heap.size<am.heap.size:=ar (Y.out.below (ae (ae (ah (ae (ah y.out _) z.out) _) H.out) a0.out))))
 obtain⟨x,Z⟩:∃x,x=am.alloc (.cells #[.slice (some ⟨f.heap.size,0,none⟩) 0 R] 40):=⟨_,rfl⟩;obtain⟨u,a1⟩:∃u,u=am.heap.size:=⟨_,rfl⟩;have Q:Hid (Below f.heap.size f x):=by show Below _ _ _;rw[Z];exact ah a0.out _
 obtain⟨p,bd⟩:∃p,p=K.heap.size:=⟨_,rfl⟩;obtain⟨lb,be⟩:∃lb,lb=O.heap.size:=⟨_,rfl⟩;have ce:aa (K.alloc (.cells #[.func (Fn.func 137) #[] #[]] 77)) K.heap.size #[.func (Fn.func 137) #[] #[]] 77:=aa.new _ _ _ _ oS;have ch:aa (O.alloc (.cells #[.int .i64 (N:Int)] 3)) O.heap.size #[.int .i64 (N:Int)] 3:=aa.new _ _ _ _ oS;have ab:Below O.heap.size O f:=cH H.out;have dv:Hid (mE L true p lb hb F x):=by
  show mE _ _ _ _ _ _ _;refine⟨?_,?_,λe=>?_⟩
  ·rw[bd];exact((ce.below z.out).below ab).below Q.out
  ·rw[be,<-dl.out];exact(ch.below H.out).below Q.out
  ·have bv:Below K.heap.size K x:=ae (ae (cH z.out) ab) Q.out;have bx:HC L K hb F:=by first|exact b9.out e|exact b9.out trivial|cases e
   exact⟨bx.1.below bv,bx.2.below bv⟩
 have ci:Hid (Below w.heap.size w f):=ae dn.out (ae y.out (ae (cH z.out) ab));have bf:Hid (aa x w.heap.size #[.int .i64 L,.bool true] 60):=((((Y.out.below y.out).below (cH z.out)).below ab)).below Q.out;have ck:Hid (BP f.heap.size f x u (iL L true 0)):=by
  show BP _ _ _ _ _;refine⟨Q.out,⟨some ⟨f.heap.size,0,none⟩,R,?_,?_⟩,?_,?_⟩
  ·show aa _ _ #[.slice (some ⟨f.heap.size,0,none⟩) 0 R] _;rw[Z,a1];exact aa.new _ _ _ _ oS
  ·show World.ownsRow _ _ _ _ (.slice (some ⟨f.heap.size,0,none⟩) 0 R) 0 [];rw[Z];exact au ds.out (ax _ _)
  ·rw[a1];exact a0.out.size
  ·exact Q.out.size
 have ap:x.cell? ⟨w.heap.size,0,none⟩=some (.int .i64 L):=bf.out.cell 0 _ rfl;rw[<-Z,<-a1,<-bd,<-be];have S:Hid (aK x x):=aK.refl _;clear a7 c5 s3 c6 dp Z a1 bd be ce ch ab C E P cp c2 bs bt;go_wp2;clear ap;go_loopw [23] (λa8 wr=>∃i:Nat,i<=L/\a8= .int .i64 i/\Hid (BP f.heap.size f wr u (iL L true i)/\aK x wr)) (λa8 _=>L-(intOf a8).toNat)
 case atStart=>exact⟨0,Nat.zero_le _,rfl,ck.out,S.out⟩
 case round=>
  clear ck S;obtain⟨i,d6,rfl,G⟩:=hrel;by_cases dx:i<L
  ·obtain⟨d,bz⟩:∃d,d=L-i:=⟨_,rfl⟩;have dy:(L:Int)-(i:Int)=(d:Int):=oO;obtain⟨r,av⟩:∃r,r=rN L true i:=⟨_,rfl⟩;have a2:r<=140:=by rw[av];exact Fj J
   have T:=Lib.hid av;have dz:4* (d:Int)+9=(r:Int):=by have a9:=KN L true i;simp at a9;rw[av,a9,bz];omega
   have d7:d<=32:=oO;obtain⟨o,ac⟩:∃o,o=wr.alloc (.cells #[.int .i64 (i:Int)] 3):=⟨_,rfl⟩;obtain⟨t,U⟩:∃t,t=wr.heap.size:=⟨_,rfl⟩;have co:Hid (Below wr.heap.size wr o):=by show Below _ _ _;rw[ac];exact ax _ _
   have ad:Hid (aa o t #[.int .i64 (i:Int)] 3):=by show aa _ _ _ _;rw[ac,U];exact aa.new _ _ _ _ oS
   have S:Hid (aK x o):=G.out.2.trans (aK.below co.out);have dE:Hid (BP f.heap.size f o u (iL L true i++sL L true i 0)):=by show BP _ _ _ _ _;rw[show sL L true i 0=[]from rfl,List.append_nil];exact G.out.1.below co.out
   have a3:Hid (mE L true p lb hb F o):=dv.out.dF S.out;have ap:o.cell? ⟨w.heap.size,0,none⟩=some (.int .i64 L):=(bf.out.iW S.out rfl).cell 0 _ rfl;have V:o.cell? ⟨t,0,none⟩=some (.int .i64 (i:Int)):=ad.out.cell 0 _ rfl;have a4:=Lib.hid dx;have a7:w.heap.size<wr.heap.size:=ar (bf.out.iW G.out.2 rfl);rw[ac]at ap V;rw[U]at V;clear bz av;have cs:Hid (∀W,aK o W->∀j k,j<r->k<2->Calls Tryz.prog 94 #[.int .i64 ((j:Nat):Int),.int .i64 ((k:Nat):Int),.pointer (some ⟨p,0,none⟩),.pointer (some ⟨t,0,none⟩)] W λe w'=>e= .returned (.agg #[.int .i64 (((eH L true i 0 j k).1:Nat):Int),.int .i64 (((eH L true i 0 j k).2:Nat):Int)])/\Below W.heap.size W w'):=by
    show∀W,_;intro W l j k m n;exact EL L true p lb t hb F i j k W X.out a4.out (by rw[<-T.out];exact m) n (a3.out.dF l) (ad.out.iW l rfl)
   have cv:Hid (∀W,aK o W->∀j k,j<r->k<2->Calls Tryz.prog 95 #[.int .i64 ((j:Nat):Int),.int .i64 ((k:Nat):Int),.pointer (some ⟨p,0,none⟩),.pointer (some ⟨t,0,none⟩),.pointer (some ⟨lb,0,none⟩)] W λe w'=>e= .returned (.agg #[.int .i64 (((eH L true i 1 j k).1:Nat):Int),.int .i64 (((eH L true i 1 j k).2:Nat):Int)])/\Below W.heap.size W w'):=by
    show∀W,_;intro W l j k m n;exact EA L true p lb t hb F i j k W X.out a4.out (by rw[<-T.out];exact m) n (a3.out.dF l) (ad.out.iW l rfl)
   have cx:Hid (∀W,aK o W->∀j k,j<r->k<2->Calls Tryz.prog 96 #[.int .i64 ((j:Nat):Int),.int .i64 ((k:Nat):Int),.pointer (some ⟨p,0,none⟩),.pointer (some ⟨lb,0,none⟩),.pointer (some ⟨t,0,none⟩)] W λe w'=>e= .returned (.agg #[.int .i64 (((eH L true i 2 j k).1:Nat):Int),.int .i64 (((eH L true i 2 j k).2:Nat):Int)])/\Below W.heap.size W w'):=by
    show∀W,_;intro W l j k m n;exact Eo L true p lb t hb F i j k W X.out a4.out (by rw[<-T.out];exact m) n (a3.out.dF l) (ad.out.iW l rfl)
   have cN:Hid (∀W,aK o W->∀j k,j<r->k<2->Calls Tryz.prog 97 #[.int .i64 ((j:Nat):Int),.int .i64 ((k:Nat):Int),.pointer (some ⟨p,0,none⟩),.pointer (some ⟨lb,0,none⟩),.pointer (some ⟨t,0,none⟩)] W λe w'=>e= .returned (.agg #[.int .i64 (((eH L true i 3 j k).1:Nat):Int),.int .i64 (((eH L true i 3 j k).2:Nat):Int)])/\Below W.heap.size W w'):=by
    show∀W,_;intro W l j k m n;exact DZ L true p lb t hb F i j k W X.out a4.out (by rw[<-T.out];exact m) n (a3.out.dF l) (ad.out.iW l rfl)
   have a5:Hid (∀s,s<=4->(iL L true i++sL L true i s).length<=60000):=by
    show∀s,_;intro s hs;rw[List.length_append,nt];have a9:=FA (c:=true) X.out i;have d5:s* (2* rN L true i)<=4* (2* 140):=Nat.mul_le_mul hs (by rw[<-T.out];omega);omega
   have a6:Hid (∀s,iL L true i++sL L true i (s+1)=iL L true i++sL L true i s++jL L true i s r):=by
    show∀s,_;intro s;rw[yf,<-T.out,List.append_assoc]
   rw[<-U]at V;rw[U]at V;go_wp2_with fail
   rw[<-ac,<-U];clear a7 ap V dz dy ac U;refine(jm f.heap.size f _ u (iL L true i++sL L true i 0) 94 #[.pointer (some ⟨p,0,none⟩),.pointer (some ⟨t,0,none⟩)] L i 0 r true dE.out (a5.out 0 oO) a2 (λargs W=>by go_simp) (λW l j m=>by rw[AL];exact cs.out W (l) j 0 m oO) (λW l j m=>by rw[AL];exact cs.out W (l) j 1 m oO)).mono ?_;rintro e v0 ⟨rfl,D,n⟩;have y:Hid (BP f.heap.size f v0 u (iL L true i++sL L true i 1)):=by show BP _ _ _ _ _;rw[a6.out 0];exact D
   have bi:Hid (aK o v0):=n;clear D n;go_wp2_with fail
   refine(jm f.heap.size f _ u (iL L true i++sL L true i 1) 95 #[.pointer (some ⟨p,0,none⟩),.pointer (some ⟨t,0,none⟩),.pointer (some ⟨lb,0,none⟩)] L i 1 r true y.out (a5.out 1 oO) a2 (λargs W=>by go_simp) (λW l j m=>by rw[kJ];exact cv.out W ((bi.out.trans l)) j 0 m oO) (λW l j m=>by rw[kJ];exact cv.out W ((bi.out.trans l)) j 1 m oO)).mono ?_;rintro e v1 ⟨rfl,D,n⟩;have z:Hid (BP f.heap.size f v1 u (iL L true i++sL L true i 2)):=by show BP _ _ _ _ _;rw[a6.out 1];exact D
   have bo:Hid (aK o v1):=bi.out.trans n;clear D n;go_wp2_with fail
   refine(jm f.heap.size f _ u (iL L true i++sL L true i 2) 96 #[.pointer (some ⟨p,0,none⟩),.pointer (some ⟨lb,0,none⟩),.pointer (some ⟨t,0,none⟩)] L i 2 r true z.out (a5.out 2 oO) a2 (λargs W=>by go_simp) (λW l j m=>by rw[kJ];exact cx.out W ((bo.out.trans l)) j 0 m oO) (λW l j m=>by rw[kJ];exact cx.out W ((bo.out.trans l)) j 1 m oO)).mono ?_;rintro e b1 ⟨rfl,D,n⟩;have H:Hid (BP f.heap.size f b1 u (iL L true i++sL L true i 3)):=by show BP _ _ _ _ _;rw[a6.out 2];exact D
   have bq:Hid (aK o b1):=bo.out.trans n;clear D n;go_wp2_with fail
   refine(jm f.heap.size f _ u (iL L true i++sL L true i 3) 97 #[.pointer (some ⟨p,0,none⟩),.pointer (some ⟨lb,0,none⟩),.pointer (some ⟨t,0,none⟩)] L i 3 r true H.out (a5.out 3 oO) a2 (λargs W=>by go_simp) (λW l j m=>by rw[kJ];exact cN.out W ((bq.out.trans l)) j 0 m oO) (λW l j m=>by rw[kJ];exact cN.out W ((bq.out.trans l)) j 1 m oO)).mono ?_;rintro e b2 ⟨rfl,D,n⟩;have d0:Hid (BP f.heap.size f b2 u (iL L true i++sL L true i 4)):=by show BP _ _ _ _ _;rw[a6.out 3];exact D
   have d1:Hid (aK o b2):=bq.out.trans n;clear D n;have d2:Hid (iL L true (i+1)=iL L true i++sL L true i 4):=ug L true i;go_wp2;exact⟨⟨i+1,by omega,by go_num,by rw[d2.out];exact d0.out,S.out.trans d1.out⟩,by simp[intOf];omega⟩
  ·obtain rfl:i=L:=oO;obtain⟨A,c7,b3,b4⟩:=G.out.1.X;have C:wr.cell? ⟨u,0,none⟩=some (.slice A (iL i true i).length c7):=b3.cell 0 _ rfl;have d3:=Lib.hid b4;have d4:=Lib.hid G.out.1.B;clear b3 b4;go_wp2;go_ret;exact⟨_,rfl,(fN.cd d3.out).mono ci.out.size,ae ci.out d4.out⟩
theorem FV (L:Nat) (w:World) (J:L<=32):Calls Tryz.prog 46 #[bD L false] w λe w'=>∃v,e= .returned v/\fN w.heap.size w' v (aZ L false)/\Below w.heap.size w w':=by
 obtain⟨c3,c4,c8,c9,da⟩:=info_parts sW;have M:=eK w L false;have dd:Hid (∀W,Calls Tryz.prog 92 #[bD L false] W λe w'=>∃hb x,e= .returned (.func (Fn.func 138) #[] #[.pointer (some ⟨hb,0,none⟩),.pointer (some ⟨x,0,none⟩)])/\(false=false->HC L w' hb x)/\Below W.heap.size W w'):=λW=>sx L false W J;have b5:Hid (∀W,Calls Tryz.prog 85 #[bD L false] W λe w'=>e= .returned (.int .i64 ((aC L false:Nat):Int))/\Below W.heap.size W w'):=λW=>ri L false W J;have b6:Hid (∀W,Calls Tryz.prog 89 #[bD L false] W λe w'=>e= .returned (.int .i64 ((ie L false:Nat):Int))/\Below W.heap.size W w'):=λW=>vZ L false W J;have X:Hid (L<=32):=J;have de:=Lib.hid (jM (c:=false) J);have dk:=Lib.hid (room_le (c:=false) J);obtain⟨bs,bt⟩:=de.out;have c2:=dk.out;obtain⟨N,b7⟩:∃N,N=aC L false-1:=⟨_,rfl⟩;have cp:((aC L false:Nat):Int)-1=(N:Int):=oO;have dl:=Lib.hid b7;have d8:N<=141:=oO;obtain⟨R,G⟩:∃R,R=ie L false:=⟨_,rfl⟩;rw[<-G]at b6 c2;clear b7 G;obtain⟨B,hB⟩:∃B,B=aC L false:=⟨_,rfl⟩;rw[<-hB]at b5 bs bt cp;clear hB;obtain⟨al,P⟩:∃al,al=w.alloc (bC L false):=⟨_,rfl⟩;have dn:Hid (Below w.heap.size w al):=by show Below _ _ _;rw[P];exact ax _ _
 have Y:Hid (aa al w.heap.size #[.int .i64 L,.bool false] 60):=by show aa _ _ _ _;rw[P];exact aa.new _ _ _ _ oS
 rw[<-P]at M;obtain⟨D,F⟩:=M.out _ (Below.refl _ _);rw[P]at D F;have dp:∀(W:World) (a:Addr) (g:Fn) (b c:Array Value),(store a (.func g b c)).run Tryz.prog W=stored Tryz.prog W a (.func g b c) .plain:=λW a g b c=>run_store _ W a _ _ rfl;go_enter Tryz.func46,Tryz.ntmps46
 go_wp2_with(first
  |(go_at_call 92;refine(dd.out _).mono ?_;rintro e K ⟨hb,x,rfl,b8,bb⟩;rw[<-P]at bb;have z:=Lib.hid bb;have b9:=Lib.hid b8;clear bb b8 D F;obtain⟨D,F⟩:=M.out _ z.out;have a7:w.heap.size<K.heap.size:=ar (Y.out.below z.out))
  |(go_at_call 85;refine(b5.out _).mono ?_;rintro e O ⟨rfl,ca⟩;have C:=Lib.hid ca;clear ca D F;obtain⟨D,F⟩:=M.out _ (ae (ah z.out _) C.out);have c5:w.heap.size<O.heap.size:=ar (Y.out.below (ae (ah z.out _) C.out)))
  |(go_at_call 89;refine(b6.out _).mono ?_;rintro e f ⟨rfl,cb⟩;have H:=Lib.hid cb;clear cb D F;obtain⟨D,F⟩:=M.out _ (ae (ah (ae (ah z.out _) C.out) _) H.out);have s3:w.heap.size<f.heap.size:=ar (Y.out.below (ae (ah (ae (ah z.out _) C.out) _) H.out)))
  |(at_make;refine wpList_make_own _ rfl _ _ _ rfl f.heap.size 47 c3 _ 2 Tryz.underlying40 c4 c8 c9 .i64 .i64 _ R rfl rfl (by first|rfl|omega) (by rw[da];omega) oM (Nat.le_refl _) ?_;intro am cq hg;have ds:=Lib.hid cq;have a0:Hid (Below f.heap.size f am):=(Below.refl _ _).grown hg (Nat.le_refl _) (λq hq=>by cases hq);clear cq hg D F;obtain⟨D,F⟩:=M.out _ (ae (ae (ah (ae (ah z.out _) C.out) _) H.out) a0.out);have c6:w.heap.size<am.heap.size:=ar (Y.out.below (ae (ae (ah (ae (ah z.out _) C.out) _) H.out) a0.out))))
 obtain⟨y,Z⟩:∃y,y=am.alloc (.cells #[.slice (some ⟨f.heap.size,0,none⟩) 0 R] 40):=⟨_,rfl⟩;obtain⟨u,a1⟩:∃u,u=am.heap.size:=⟨_,rfl⟩;have Q:Hid (Below f.heap.size f y):=by show Below _ _ _;rw[Z];exact ah a0.out _
 obtain⟨p,bd⟩:∃p,p=K.heap.size:=⟨_,rfl⟩;obtain⟨lb,be⟩:∃lb,lb=O.heap.size:=⟨_,rfl⟩;have ce:aa (K.alloc (.cells #[.func (Fn.func 138) #[] #[.pointer (some ⟨hb,0,none⟩),.pointer (some ⟨x,0,none⟩)]] 77)) K.heap.size #[.func (Fn.func 138) #[] #[.pointer (some ⟨hb,0,none⟩),.pointer (some ⟨x,0,none⟩)]] 77:=aa.new _ _ _ _ oS;have ch:aa (O.alloc (.cells #[.int .i64 (N:Int)] 3)) O.heap.size #[.int .i64 (N:Int)] 3:=aa.new _ _ _ _ oS;have ab:Below O.heap.size O f:=cH H.out;have dv:Hid (mE L false p lb hb x y):=by
  show mE _ _ _ _ _ _ _;refine⟨?_,?_,λe=>?_⟩
  ·rw[bd];exact((ce.below C.out).below ab).below Q.out
  ·rw[be,<-dl.out];exact(ch.below H.out).below Q.out
  ·have bv:Below K.heap.size K y:=ae (ae (cH C.out) ab) Q.out;have bx:HC L K hb x:=by first|exact b9.out e|exact b9.out trivial|cases e
   exact⟨bx.1.below bv,bx.2.below bv⟩
 have ci:Hid (Below w.heap.size w f):=ae dn.out (ae z.out (ae (cH C.out) ab));have bf:Hid (aa y w.heap.size #[.int .i64 L,.bool false] 60):=((((Y.out.below z.out).below (cH C.out)).below ab)).below Q.out;have ck:Hid (BP f.heap.size f y u (iL L false 0)):=by
  show BP _ _ _ _ _;refine⟨Q.out,⟨some ⟨f.heap.size,0,none⟩,R,?_,?_⟩,?_,?_⟩
  ·show aa _ _ #[.slice (some ⟨f.heap.size,0,none⟩) 0 R] _;rw[Z,a1];exact aa.new _ _ _ _ oS
  ·show World.ownsRow _ _ _ _ (.slice (some ⟨f.heap.size,0,none⟩) 0 R) 0 [];rw[Z];exact au ds.out (ax _ _)
  ·rw[a1];exact a0.out.size
  ·exact Q.out.size
 have ap:y.cell? ⟨w.heap.size,0,none⟩=some (.int .i64 L):=bf.out.cell 0 _ rfl;rw[<-Z,<-a1,<-bd,<-be];have S:Hid (aK y y):=aK.refl _;clear a7 c5 s3 c6 dp Z a1 bd be ce ch ab D F P cp c2 bs bt;go_wp2;clear ap;go_loopw [23] (λa8 wr=>∃i:Nat,i<=L/\a8= .int .i64 i/\Hid (BP f.heap.size f wr u (iL L false i)/\aK y wr)) (λa8 _=>L-(intOf a8).toNat)
 case atStart=>exact⟨0,Nat.zero_le _,rfl,ck.out,S.out⟩
 case round=>
  clear ck S;obtain⟨i,d6,rfl,G⟩:=hrel;by_cases dx:i<L
  ·obtain⟨d,bz⟩:∃d,d=L-i:=⟨_,rfl⟩;have dy:(L:Int)-(i:Int)=(d:Int):=oO;obtain⟨r,av⟩:∃r,r=rN L false i:=⟨_,rfl⟩;have a2:r<=140:=by rw[av];exact Fj J
   have T:=Lib.hid av;have dz:4* (d:Int)+12=(r:Int):=by have a9:=KN L false i;simp at a9;rw[av,a9,bz];omega
   have d7:d<=32:=oO;obtain⟨o,ac⟩:∃o,o=wr.alloc (.cells #[.int .i64 (i:Int)] 3):=⟨_,rfl⟩;obtain⟨t,U⟩:∃t,t=wr.heap.size:=⟨_,rfl⟩;have co:Hid (Below wr.heap.size wr o):=by show Below _ _ _;rw[ac];exact ax _ _
   have ad:Hid (aa o t #[.int .i64 (i:Int)] 3):=by show aa _ _ _ _;rw[ac,U];exact aa.new _ _ _ _ oS
   have S:Hid (aK y o):=G.out.2.trans (aK.below co.out);have dE:Hid (BP f.heap.size f o u (iL L false i++sL L false i 0)):=by show BP _ _ _ _ _;rw[show sL L false i 0=[]from rfl,List.append_nil];exact G.out.1.below co.out
   have a3:Hid (mE L false p lb hb x o):=dv.out.dF S.out;have ap:o.cell? ⟨w.heap.size,0,none⟩=some (.int .i64 L):=(bf.out.iW S.out rfl).cell 0 _ rfl;have V:o.cell? ⟨t,0,none⟩=some (.int .i64 (i:Int)):=ad.out.cell 0 _ rfl;have a4:=Lib.hid dx;have a7:w.heap.size<wr.heap.size:=ar (bf.out.iW G.out.2 rfl);rw[ac]at ap V;rw[U]at V;clear bz av;have cs:Hid (∀W,aK o W->∀j k,j<r->k<2->Calls Tryz.prog 94 #[.int .i64 ((j:Nat):Int),.int .i64 ((k:Nat):Int),.pointer (some ⟨p,0,none⟩),.pointer (some ⟨t,0,none⟩)] W λe w'=>e= .returned (.agg #[.int .i64 (((eH L false i 0 j k).1:Nat):Int),.int .i64 (((eH L false i 0 j k).2:Nat):Int)])/\Below W.heap.size W w'):=by
    show∀W,_;intro W l j k m n;exact EL L false p lb t hb x i j k W X.out a4.out (by rw[<-T.out];exact m) n (a3.out.dF l) (ad.out.iW l rfl)
   have cv:Hid (∀W,aK o W->∀j k,j<r->k<2->Calls Tryz.prog 95 #[.int .i64 ((j:Nat):Int),.int .i64 ((k:Nat):Int),.pointer (some ⟨p,0,none⟩),.pointer (some ⟨t,0,none⟩),.pointer (some ⟨lb,0,none⟩)] W λe w'=>e= .returned (.agg #[.int .i64 (((eH L false i 1 j k).1:Nat):Int),.int .i64 (((eH L false i 1 j k).2:Nat):Int)])/\Below W.heap.size W w'):=by
    show∀W,_;intro W l j k m n;exact EA L false p lb t hb x i j k W X.out a4.out (by rw[<-T.out];exact m) n (a3.out.dF l) (ad.out.iW l rfl)
   have cx:Hid (∀W,aK o W->∀j k,j<r->k<2->Calls Tryz.prog 96 #[.int .i64 ((j:Nat):Int),.int .i64 ((k:Nat):Int),.pointer (some ⟨p,0,none⟩),.pointer (some ⟨lb,0,none⟩),.pointer (some ⟨t,0,none⟩)] W λe w'=>e= .returned (.agg #[.int .i64 (((eH L false i 2 j k).1:Nat):Int),.int .i64 (((eH L false i 2 j k).2:Nat):Int)])/\Below W.heap.size W w'):=by
    show∀W,_;intro W l j k m n;exact Eo L false p lb t hb x i j k W X.out a4.out (by rw[<-T.out];exact m) n (a3.out.dF l) (ad.out.iW l rfl)
   have cN:Hid (∀W,aK o W->∀j k,j<r->k<2->Calls Tryz.prog 97 #[.int .i64 ((j:Nat):Int),.int .i64 ((k:Nat):Int),.pointer (some ⟨p,0,none⟩),.pointer (some ⟨lb,0,none⟩),.pointer (some ⟨t,0,none⟩)] W λe w'=>e= .returned (.agg #[.int .i64 (((eH L false i 3 j k).1:Nat):Int),.int .i64 (((eH L false i 3 j k).2:Nat):Int)])/\Below W.heap.size W w'):=by
    show∀W,_;intro W l j k m n;exact DZ L false p lb t hb x i j k W X.out a4.out (by rw[<-T.out];exact m) n (a3.out.dF l) (ad.out.iW l rfl)
   have a5:Hid (∀s,s<=4->(iL L false i++sL L false i s).length<=60000):=by
    show∀s,_;intro s hs;rw[List.length_append,nt];have a9:=FA (c:=false) X.out i;have d5:s* (2* rN L false i)<=4* (2* 140):=Nat.mul_le_mul hs (by rw[<-T.out];omega);omega
   have a6:Hid (∀s,iL L false i++sL L false i (s+1)=iL L false i++sL L false i s++jL L false i s r):=by
    show∀s,_;intro s;rw[yf,<-T.out,List.append_assoc]
   rw[<-U]at V;rw[U]at V;go_wp2_with fail
   rw[<-ac,<-U];clear a7 ap V dz dy ac U;refine(jm f.heap.size f _ u (iL L false i++sL L false i 0) 94 #[.pointer (some ⟨p,0,none⟩),.pointer (some ⟨t,0,none⟩)] L i 0 r false dE.out (a5.out 0 oO) a2 (λargs W=>by go_simp) (λW l j m=>by rw[AL];exact cs.out W (l) j 0 m oO) (λW l j m=>by rw[AL];exact cs.out W (l) j 1 m oO)).mono ?_;rintro e v0 ⟨rfl,E,n⟩;have z:Hid (BP f.heap.size f v0 u (iL L false i++sL L false i 1)):=by show BP _ _ _ _ _;rw[a6.out 0];exact E
   have bi:Hid (aK o v0):=n;clear E n;go_wp2_with fail
   refine(jm f.heap.size f _ u (iL L false i++sL L false i 1) 95 #[.pointer (some ⟨p,0,none⟩),.pointer (some ⟨t,0,none⟩),.pointer (some ⟨lb,0,none⟩)] L i 1 r false z.out (a5.out 1 oO) a2 (λargs W=>by go_simp) (λW l j m=>by rw[kJ];exact cv.out W ((bi.out.trans l)) j 0 m oO) (λW l j m=>by rw[kJ];exact cv.out W ((bi.out.trans l)) j 1 m oO)).mono ?_;rintro e v1 ⟨rfl,E,n⟩;have C:Hid (BP f.heap.size f v1 u (iL L false i++sL L false i 2)):=by show BP _ _ _ _ _;rw[a6.out 1];exact E
   have bo:Hid (aK o v1):=bi.out.trans n;clear E n;go_wp2_with fail
   refine(jm f.heap.size f _ u (iL L false i++sL L false i 2) 96 #[.pointer (some ⟨p,0,none⟩),.pointer (some ⟨lb,0,none⟩),.pointer (some ⟨t,0,none⟩)] L i 2 r false C.out (a5.out 2 oO) a2 (λargs W=>by go_simp) (λW l j m=>by rw[kJ];exact cx.out W ((bo.out.trans l)) j 0 m oO) (λW l j m=>by rw[kJ];exact cx.out W ((bo.out.trans l)) j 1 m oO)).mono ?_;rintro e b1 ⟨rfl,E,n⟩;have H:Hid (BP f.heap.size f b1 u (iL L false i++sL L false i 3)):=by show BP _ _ _ _ _;rw[a6.out 2];exact E
   have bq:Hid (aK o b1):=bo.out.trans n;clear E n;go_wp2_with fail
   refine(jm f.heap.size f _ u (iL L false i++sL L false i 3) 97 #[.pointer (some ⟨p,0,none⟩),.pointer (some ⟨lb,0,none⟩),.pointer (some ⟨t,0,none⟩)] L i 3 r false H.out (a5.out 3 oO) a2 (λargs W=>by go_simp) (λW l j m=>by rw[kJ];exact cN.out W ((bq.out.trans l)) j 0 m oO) (λW l j m=>by rw[kJ];exact cN.out W ((bq.out.trans l)) j 1 m oO)).mono ?_;rintro e b2 ⟨rfl,E,n⟩;have d0:Hid (BP f.heap.size f b2 u (iL L false i++sL L false i 4)):=by show BP _ _ _ _ _;rw[a6.out 3];exact E
   have d1:Hid (aK o b2):=bq.out.trans n;clear E n;have d2:Hid (iL L false (i+1)=iL L false i++sL L false i 4):=ug L false i;go_wp2;exact⟨⟨i+1,by omega,by go_num,by rw[d2.out];exact d0.out,S.out.trans d1.out⟩,by simp[intOf];omega⟩
  ·obtain rfl:i=L:=oO;obtain⟨A,c7,b3,b4⟩:=G.out.1.X;have D:wr.cell? ⟨u,0,none⟩=some (.slice A (iL i false i).length c7):=b3.cell 0 _ rfl;have d3:=Lib.hid b4;have d4:=Lib.hid G.out.1.B;clear b3 b4;go_wp2;go_ret;exact⟨_,rfl,(fN.cd d3.out).mono ci.out.size,ae ci.out d4.out⟩
theorem we (L:Nat) (c:Bool) (w:World) (a:L<=32):Calls Tryz.prog 46 #[bD L c] w λe w'=>∃v,e= .returned v/\fN w.heap.size w' v (aZ L c)/\Below w.heap.size w w':=by
 cases c with
 |true=>exact GL L w a
 |false=>exact FV L w a
end
end Go.Proofs.YtmnlkganmgcpbaaGreatDoor
