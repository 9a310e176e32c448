import Derived.Test.YtmnlkganmgcpbaaGreatDoorQm18
set_option maxRecDepth 100000
set_option maxHeartbeats 4000000
set_option linter.unusedVariables false
set_option linter.unusedSectionVars false
set_option linter.unusedSimpArgs false
namespace Go.Proofs.YtmnlkganmgcpbaaGreatDoor
section
open Go.RowKit
theorem ae.eW {w:World} {g:Nat} {u:Value} {t:TypeId} (h:ae w g #[u] t) (v:Value):ae (w.setCell ⟨g,0,none⟩ v) g #[v] t:=heap_setCell_same w g 0 #[u] t v h
theorem ae.cj {w:World} {g:Nat} {a:Array Value} {t:TypeId} (h:ae w g a t) (p:Addr) (v:Value) (b:g≠p.block):ae (w.setCell p v) g a t:=(Below.heap_setCell _ _ _ _ b).trans h
theorem xK (L:Nat) (w:World) (b8:L<=32):Calls Tryz.prog 92 #[cn L false] w λe w'=>∃hb it,e= .returned (.func (Fn.func 138) #[] #[.pointer (some ⟨hb,0,none⟩),.pointer (some ⟨it,0,none⟩)])/\HC L w' hb it/\Below w.heap.size w w':=by
 have j:=eV w L false;have n:Hid (∀W,Calls Tryz.prog 36 #[cn L false] W λe w'=>e= .returned (.int .i64 ((aD L false:Nat):Int))/\Below W.heap.size W w'):=λW=>qH L false W b8;have i:Hid (∀W,Calls Tryz.prog 85 #[cn L false] W λe w'=>e= .returned (.int .i64 ((aJ L false:Nat):Int))/\Below W.heap.size W w'):=λW=>qo L false W b8;have rf:=Lib.hid (jH (c:=false) b8);have rg:=Lib.hid (gM (c:=false) b8);unfold HC dd;generalize aJ L false=B at*;generalize aD L false=S at*;obtain⟨wz,wA⟩:=rf.out;obtain⟨wG,wI⟩:=rg.out;obtain⟨f,i7⟩:∃f,f=B/2:=⟨_,rfl⟩;obtain⟨t,iv⟩:∃t,t=(S-1)/2:=⟨_,rfl⟩;rw[<-i7,<-iv];have e1:(B:Int)/2=(f:Int):=oO;obtain⟨b9,ro⟩:∃b9,b9=S-1:=⟨_,rfl⟩;have wL:IntKind.i64.wrap ((S:Int)-1)=(b9:Int):=by rw[aE _ oO oO];omega
 have e4:(b9:Int)/2=(t:Int):=oO;have wM:IntKind.i64.wrap (t:Int)=(t:Int):=aE _ oO oO;have wO:IntKind.i64.wrap (f:Int)=(f:Int):=aE _ oO oO;have wP:f<=200:=oO;have wR:t<=200:=oO;clear i7 iv ro;obtain⟨a,ab⟩:∃a,a=w.alloc (bL L false):=⟨_,rfl⟩;have q:Hid (Below w.heap.size w a):=by show Below _ _ _;rw[ab];exact ax _ _
 rw[<-ab]at j;have V:Hid (af a a.drew):=ai (Below.refl _ _);obtain⟨ix,i0⟩:=j.out _ (Below.refl _ _);rw[ab]at ix i0;go_enter Tryz.func92,Tryz.ntmps92;go_wp2;rw[<-ab];clear ix i0 ab;refine pn (S:=af a) (.br [(false,0),(false,4)] [1,7,8] (λk=>if k=1 then .br [(false,2),(false,3)] [5,7,8] (λk=>if k=5 then .br [(false,6)] [7,8] (λk=>if k=7 then .last [(true,8),(true,9),(true,10)]else .last [(true,7),(true,9),(true,10)])else if k=7 then .br [] [5,8] (λk=>if k=5 then .last [(false,6),(true,8),(true,9),(true,10)]else .last [(true,5),(false,6),(true,9),(true,10)])else .br [] [5,7] (λk=>if k=5 then .last [(false,6),(true,7),(true,9),(true,10)]else .last [(true,5),(false,6),(true,9),(true,10)]))else if k=7 then .br [] [1,8] (λk=>if k=1 then .br [(false,2),(false,3)] [5,8] (λk=>if k=5 then .last [(false,6),(true,8),(true,9),(true,10)]else .last [(true,5),(false,6),(true,9),(true,10)])else .last [(true,1),(false,2),(false,3),(true,5),(false,6),(true,9),(true,10)])else .br [] [1,7] (λk=>if k=1 then .br [(false,2),(false,3)] [5,7] (λk=>if k=5 then .last [(false,6),(true,7),(true,9),(true,10)]else .last [(true,5),(false,6),(true,9),(true,10)])else .last [(true,1),(false,2),(false,3),(true,5),(false,6),(true,9),(true,10)]))) oK oK V.out ?_;simp only[reduceIte,Nat.reduceEqDiff,wpTree,attachW,List.getElem?_cons_zero,List.getElem?_cons_succ]
 repeat refine zO j.out ?_
 refine ag ?_;intro k g;simp only[List.mem_cons,List.not_mem_nil,or_false]at g;rcases g with rfl|rfl|rfl
 ·simp only[reduceIte,Nat.reduceEqDiff,wpTree,attachW,List.getElem?_cons_zero,List.getElem?_cons_succ];refine zZ ?_;refine(n.out _).mono ?_;rintro e r ⟨rfl,hb⟩;have X:Hid (af a r):=aa V.out hb;clear hb;refine⟨_,rfl,X.out,jO ?_⟩;refine ag ?_
  (try simp only[reduceIte,Nat.reduceEqDiff,wpTree,attachW,List.getElem?_cons_zero,List.getElem?_cons_succ])
  repeat refine zO j.out ?_
  refine ag ?_;intro k g;simp only[List.mem_cons,List.not_mem_nil,or_false]at g;rcases g with rfl|rfl|rfl
  ·simp only[reduceIte,Nat.reduceEqDiff,wpTree,attachW,List.getElem?_cons_zero,List.getElem?_cons_succ];refine zZ ?_;refine(i.out _).mono ?_;rintro e s ⟨rfl,hb⟩;have ac:Hid (af a s):=aa X.out hb;clear hb;refine⟨_,rfl,ac.out,jO ?_⟩;refine ag ?_
   (try simp only[reduceIte,Nat.reduceEqDiff,wpTree,attachW,List.getElem?_cons_zero,List.getElem?_cons_succ])
   repeat refine zO j.out ?_
   refine ag ?_;intro k g;simp only[List.mem_cons,List.not_mem_nil,or_false]at g;rcases g with rfl|rfl
   ·simp only[reduceIte,Nat.reduceEqDiff,wpTree,attachW,List.getElem?_cons_zero,List.getElem?_cons_succ];obtain⟨u,ce⟩:∃d,d=s.alloc (.cells #[.int .i64 0] 3):=⟨_,rfl⟩;obtain⟨x,f0⟩:∃b,b=s.heap.size:=⟨_,rfl⟩;have rs:Hid (Below s.heap.size s u):=by show Below _ _ _;rw[ce];exact ax _ _
    have f1:Hid (af a u):=aa ac.out rs.out;have i1:Hid (ae u x #[.int .i64 0] 3/\a.heap.size<=x):=by show _/\_;rw[ce,f0];exact⟨ae.new _ _ _ _ oS,ac.out.size⟩
    have mm:=Lib.hid i1.out.1;have sv:=Lib.hid i1.out.2;refine' zQ (v:= .pointer (some ⟨x,0,none⟩)) (w':=u) rfl (by rw[f0,ce];go_simp) f1.out ?_;clear ce f0;refine ag ?_
    (try simp only[reduceIte,Nat.reduceEqDiff,wpTree,attachW,List.getElem?_cons_zero,List.getElem?_cons_succ])
    obtain⟨Y,cg⟩:∃d,d=u.alloc (.cells #[.int .i64 0] 3):=⟨_,rfl⟩;obtain⟨y,ch⟩:∃b,b=u.heap.size:=⟨_,rfl⟩;have i8:Hid (Below u.heap.size u Y):=by show Below _ _ _;rw[cg];exact ax _ _
    have i9:Hid (af a Y):=aa f1.out i8.out;have i2:Hid (ae Y y #[.int .i64 0] 3/\a.heap.size<=y):=by show _/\_;rw[cg,ch];exact⟨ae.new _ _ _ _ oS,f1.out.size⟩
    have i3:Hid (x≠y):=by show _≠_;rw[ch];exact Nat.ne_of_lt (ar mm.out)
    have gg:=Lib.hid (mm.out.below i8.out);have r1:=Lib.hid i2.out.1;have sy:=Lib.hid i2.out.2;refine' zQ (v:= .pointer (some ⟨y,0,none⟩)) (w':=Y) rfl (by rw[ch,cg];go_simp) i9.out ?_;clear cg ch;obtain⟨ca,ad⟩:∃d,d=Y.setCell ⟨x,0,none⟩ (.int .i64 (t:Int)):=⟨_,rfl⟩;have jp:Hid (af a ca):=by show Below _ _ _;rw[ad];exact i9.out.setCell (by exact sv.out) _
    have r2:Hid (ae ca x #[.int .i64 (t:Int)] 3):=by show ae _ _ _ _;rw[ad];exact gg.out.eW _
    have dl:=Lib.hid (r1.out.cj ⟨x,0,none⟩ (.int .i64 (t:Int)) (i3.out.symm));rw[<-ad]at dl;refine' aY (w':=ca) rfl (by rw[ad];exact bF rfl ⟨x,0,none⟩ t rfl rfl (gg.out.cell 0 _ rfl) (frozen_of_row _ _ _ _ _ gg.out)) jp.out ?_;simp only[yQ,yU,yX,yY];clear ad;obtain⟨fz,al⟩:∃d,d=ca.setCell ⟨y,0,none⟩ (.int .i64 (f:Int)):=⟨_,rfl⟩;have jr:Hid (af a fz):=by show Below _ _ _;rw[al];exact jp.out.setCell (by exact sy.out) _
    have r3:Hid (ae fz y #[.int .i64 (f:Int)] 3):=by show ae _ _ _ _;rw[al];exact dl.out.eW _
    have mp:=Lib.hid (r2.out.cj ⟨y,0,none⟩ (.int .i64 (f:Int)) (i3.out));rw[<-al]at mp;refine' aY (w':=fz) rfl (by rw[al];exact bF rfl ⟨y,0,none⟩ f rfl rfl (dl.out.cell 0 _ rfl) (frozen_of_row _ _ _ _ _ dl.out)) jr.out ?_;simp only[yQ,yU,yX,yY];clear al;refine ag ?_;clear i n;go_wp2;go_ret;exact⟨_,_,rfl,⟨r3.out,mp.out⟩,aa q.out jr.out⟩
   ·simp only[reduceIte,Nat.reduceEqDiff,wpTree,attachW,List.getElem?_cons_zero,List.getElem?_cons_succ];obtain⟨z,ci⟩:∃d,d=s.alloc (.cells #[.int .i64 0] 3):=⟨_,rfl⟩;obtain⟨A,f2⟩:∃b,b=s.heap.size:=⟨_,rfl⟩;have rt:Hid (Below s.heap.size s z):=by show Below _ _ _;rw[ci];exact ax _ _
    have f3:Hid (af a z):=aa ac.out rt.out;have i4:Hid (ae z A #[.int .i64 0] 3/\a.heap.size<=A):=by show _/\_;rw[ci,f2];exact⟨ae.new _ _ _ _ oS,ac.out.size⟩
    have mq:=Lib.hid i4.out.1;have s1:=Lib.hid i4.out.2;refine' zQ (v:= .pointer (some ⟨A,0,none⟩)) (w':=z) rfl (by rw[f2,ci];go_simp) f3.out ?_;clear ci f2;refine ag ?_
    (try simp only[reduceIte,Nat.reduceEqDiff,wpTree,attachW,List.getElem?_cons_zero,List.getElem?_cons_succ])
    obtain⟨Z,ck⟩:∃d,d=z.alloc (.cells #[.int .i64 0] 3):=⟨_,rfl⟩;obtain⟨C,co⟩:∃b,b=z.heap.size:=⟨_,rfl⟩;have jv:Hid (Below z.heap.size z Z):=by show Below _ _ _;rw[ck];exact ax _ _
    have j0:Hid (af a Z):=aa f3.out jv.out;have i5:Hid (ae Z C #[.int .i64 0] 3/\a.heap.size<=C):=by show _/\_;rw[ck,co];exact⟨ae.new _ _ _ _ oS,f3.out.size⟩
    have i6:Hid (A≠C):=by show _≠_;rw[co];exact Nat.ne_of_lt (ar mq.out)
    have sb:=Lib.hid (mq.out.below jv.out);have gi:=Lib.hid i5.out.1;have s2:=Lib.hid i5.out.2;refine' zQ (v:= .pointer (some ⟨C,0,none⟩)) (w':=Z) rfl (by rw[co,ck];go_simp) j0.out ?_;clear ck co;obtain⟨cb,am⟩:∃d,d=Z.setCell ⟨C,0,none⟩ (.int .i64 (t:Int)):=⟨_,rfl⟩;have kc:Hid (af a cb):=by show Below _ _ _;rw[am];exact j0.out.setCell (by exact s2.out) _
    have sd:Hid (ae cb C #[.int .i64 (t:Int)] 3):=by show ae _ _ _ _;rw[am];exact gi.out.eW _
    have ds:=Lib.hid (sb.out.cj ⟨C,0,none⟩ (.int .i64 (t:Int)) (i6.out.symm.symm));rw[<-am]at ds;refine' aY (w':=cb) rfl (by rw[am];exact bF rfl ⟨C,0,none⟩ t rfl rfl (gi.out.cell 0 _ rfl) (frozen_of_row _ _ _ _ _ gi.out)) kc.out ?_;simp only[yQ,yU,yX,yY];clear am;obtain⟨f4,a8⟩:∃d,d=cb.setCell ⟨A,0,none⟩ (.int .i64 (f:Int)):=⟨_,rfl⟩;have ms:Hid (af a f4):=by show Below _ _ _;rw[a8];exact kc.out.setCell (by exact s1.out) _
    have s4:Hid (ae f4 A #[.int .i64 (f:Int)] 3):=by show ae _ _ _ _;rw[a8];exact ds.out.eW _
    have pv:=Lib.hid (sd.out.cj ⟨A,0,none⟩ (.int .i64 (f:Int)) (i6.out.symm));rw[<-a8]at pv;refine' aY (w':=f4) rfl (by rw[a8];exact bF rfl ⟨A,0,none⟩ f rfl rfl (ds.out.cell 0 _ rfl) (frozen_of_row _ _ _ _ _ ds.out)) ms.out ?_;simp only[yQ,yU,yX,yY];clear a8;refine ag ?_;clear i n;go_wp2;go_ret;exact⟨_,_,rfl,⟨s4.out,pv.out⟩,aa q.out ms.out⟩
  ·simp only[reduceIte,Nat.reduceEqDiff,wpTree,attachW,List.getElem?_cons_zero,List.getElem?_cons_succ];obtain⟨D,dv⟩:∃d,d=r.alloc (.cells #[.int .i64 0] 3):=⟨_,rfl⟩;obtain⟨o,go⟩:∃b,b=r.heap.size:=⟨_,rfl⟩;have sm:Hid (Below r.heap.size r D):=by show Below _ _ _;rw[dv];exact ax _ _
   have dx:Hid (af a D):=aa X.out sm.out;have kd:Hid (ae D o #[.int .i64 0] 3/\a.heap.size<=o):=by show _/\_;rw[dv,go];exact⟨ae.new _ _ _ _ oS,X.out.size⟩
   have gC:=Lib.hid kd.out.1;have rc:=Lib.hid kd.out.2;refine' zQ (v:= .pointer (some ⟨o,0,none⟩)) (w':=D) rfl (by rw[go,dv];go_simp) dx.out ?_;clear dv go;refine ag ?_
   (try simp only[reduceIte,Nat.reduceEqDiff,wpTree,attachW,List.getElem?_cons_zero,List.getElem?_cons_succ])
   refine ag ?_;intro k g;simp only[List.mem_cons,List.not_mem_nil,or_false]at g;rcases g with rfl|rfl
   ·simp only[reduceIte,Nat.reduceEqDiff,wpTree,attachW,List.getElem?_cons_zero,List.getElem?_cons_succ];refine zZ ?_;refine(i.out _).mono ?_;rintro e ap ⟨rfl,hb⟩;have gq:Hid (af a ap):=aa dx.out hb;have p0:=Lib.hid (gC.out.below hb);clear hb;refine⟨_,rfl,gq.out,jO ?_⟩;refine ag ?_
    (try simp only[reduceIte,Nat.reduceEqDiff,wpTree,attachW,List.getElem?_cons_zero,List.getElem?_cons_succ])
    repeat refine zO j.out ?_
    obtain⟨av,dy⟩:∃d,d=ap.alloc (.cells #[.int .i64 0] 3):=⟨_,rfl⟩;obtain⟨E,d0⟩:∃b,b=ap.heap.size:=⟨_,rfl⟩;have mt:Hid (Below ap.heap.size ap av):=by show Below _ _ _;rw[dy];exact ax _ _
    have m0:Hid (af a av):=aa gq.out mt.out;have ks:Hid (ae av E #[.int .i64 0] 3/\a.heap.size<=E):=by show _/\_;rw[dy,d0];exact⟨ae.new _ _ _ _ oS,gq.out.size⟩
    have kv:Hid (o≠E):=by show _≠_;rw[d0];exact Nat.ne_of_lt (ar p0.out)
    have gD:=Lib.hid (p0.out.below mt.out);have ta:=Lib.hid ks.out.1;have wm:=Lib.hid ks.out.2;refine' zQ (v:= .pointer (some ⟨E,0,none⟩)) (w':=av) rfl (by rw[d0,dy];go_simp) m0.out ?_;clear dy d0;obtain⟨cp,a9⟩:∃d,d=av.setCell ⟨o,0,none⟩ (.int .i64 (t:Int)):=⟨_,rfl⟩;have m1:Hid (af a cp):=by show Below _ _ _;rw[a9];exact m0.out.setCell (by exact rc.out) _
    have tb:Hid (ae cp o #[.int .i64 (t:Int)] 3):=by show ae _ _ _ _;rw[a9];exact gD.out.eW _
    have e9:=Lib.hid (ta.out.cj ⟨o,0,none⟩ (.int .i64 (t:Int)) (kv.out.symm));rw[<-a9]at e9;refine' aY (w':=cp) rfl (by rw[a9];exact bF rfl ⟨o,0,none⟩ t rfl rfl (gD.out.cell 0 _ rfl) (frozen_of_row _ _ _ _ _ gD.out)) m1.out ?_;simp only[yQ,yU,yX,yY];clear a9;obtain⟨f5,bb⟩:∃d,d=cp.setCell ⟨E,0,none⟩ (.int .i64 (f:Int)):=⟨_,rfl⟩;have m2:Hid (af a f5):=by show Below _ _ _;rw[bb];exact m1.out.setCell (by exact wm.out) _
    have td:Hid (ae f5 E #[.int .i64 (f:Int)] 3):=by show ae _ _ _ _;rw[bb];exact e9.out.eW _
    have p3:=Lib.hid (tb.out.cj ⟨E,0,none⟩ (.int .i64 (f:Int)) (kv.out));rw[<-bb]at p3;refine' aY (w':=f5) rfl (by rw[bb];exact bF rfl ⟨E,0,none⟩ f rfl rfl (e9.out.cell 0 _ rfl) (frozen_of_row _ _ _ _ _ e9.out)) m2.out ?_;simp only[yQ,yU,yX,yY];clear bb;refine ag ?_;clear i n;go_wp2;go_ret;exact⟨_,_,rfl,⟨td.out,p3.out⟩,aa q.out m2.out⟩
   ·simp only[reduceIte,Nat.reduceEqDiff,wpTree,attachW,List.getElem?_cons_zero,List.getElem?_cons_succ];obtain⟨cq,d1⟩:∃d,d=D.alloc (.cells #[.int .i64 0] 3):=⟨_,rfl⟩;obtain⟨F,d2⟩:∃b,b=D.heap.size:=⟨_,rfl⟩;have m3:Hid (Below D.heap.size D cq):=by show Below _ _ _;rw[d1];exact ax _ _
    have m4:Hid (af a cq):=aa dx.out m3.out;have kw:Hid (ae cq F #[.int .i64 0] 3/\a.heap.size<=F):=by show _/\_;rw[d1,d2];exact⟨ae.new _ _ _ _ oS,dx.out.size⟩
    have k0:Hid (o≠F):=by show _≠_;rw[d2];exact Nat.ne_of_lt (ar gC.out)
    have tl:=Lib.hid (gC.out.below m3.out);have tp:=Lib.hid kw.out.1;have wn:=Lib.hid kw.out.2;refine' zQ (v:= .pointer (some ⟨F,0,none⟩)) (w':=cq) rfl (by rw[d2,d1];go_simp) m4.out ?_;clear d1 d2;refine ag ?_
    (try simp only[reduceIte,Nat.reduceEqDiff,wpTree,attachW,List.getElem?_cons_zero,List.getElem?_cons_succ])
    refine zZ ?_;refine(i.out _).mono ?_;rintro e k1 ⟨rfl,hb⟩;have m5:Hid (af a k1):=aa m4.out hb;have gN:=Lib.hid (tl.out.below hb);have tq:=Lib.hid (tp.out.below hb);clear hb;refine⟨_,rfl,m5.out,jO ?_⟩
    repeat refine zO j.out ?_
    obtain⟨cr,bd⟩:∃d,d=k1.setCell ⟨o,0,none⟩ (.int .i64 (t:Int)):=⟨_,rfl⟩;have m6:Hid (af a cr):=by show Below _ _ _;rw[bd];exact m5.out.setCell (by exact rc.out) _
    have tr:Hid (ae cr o #[.int .i64 (t:Int)] 3):=by show ae _ _ _ _;rw[bd];exact gN.out.eW _
    have fb:=Lib.hid (tq.out.cj ⟨o,0,none⟩ (.int .i64 (t:Int)) (k0.out.symm));rw[<-bd]at fb;refine' aY (w':=cr) rfl (by rw[bd];exact bF rfl ⟨o,0,none⟩ t rfl rfl (gN.out.cell 0 _ rfl) (frozen_of_row _ _ _ _ _ gN.out)) m6.out ?_;simp only[yQ,yU,yX,yY];clear bd;obtain⟨f6,be⟩:∃d,d=cr.setCell ⟨F,0,none⟩ (.int .i64 (f:Int)):=⟨_,rfl⟩;have m7:Hid (af a f6):=by show Below _ _ _;rw[be];exact m6.out.setCell (by exact wn.out) _
    have ts:Hid (ae f6 F #[.int .i64 (f:Int)] 3):=by show ae _ _ _ _;rw[be];exact fb.out.eW _
    have p4:=Lib.hid (tr.out.cj ⟨F,0,none⟩ (.int .i64 (f:Int)) (k0.out));rw[<-be]at p4;refine' aY (w':=f6) rfl (by rw[be];exact bF rfl ⟨F,0,none⟩ f rfl rfl (fb.out.cell 0 _ rfl) (frozen_of_row _ _ _ _ _ fb.out)) m7.out ?_;simp only[yQ,yU,yX,yY];clear be;refine ag ?_;clear i n;go_wp2;go_ret;exact⟨_,_,rfl,⟨ts.out,p4.out⟩,aa q.out m7.out⟩
  ·simp only[reduceIte,Nat.reduceEqDiff,wpTree,attachW,List.getElem?_cons_zero,List.getElem?_cons_succ];obtain⟨G,d3⟩:∃d,d=r.alloc (.cells #[.int .i64 0] 3):=⟨_,rfl⟩;obtain⟨p,gs⟩:∃b,b=r.heap.size:=⟨_,rfl⟩;have sn:Hid (Below r.heap.size r G):=by show Below _ _ _;rw[d3];exact ax _ _
   have d4:Hid (af a G):=aa X.out sn.out;have k2:Hid (ae G p #[.int .i64 0] 3/\a.heap.size<=p):=by show _/\_;rw[d3,gs];exact⟨ae.new _ _ _ _ oS,X.out.size⟩
   have g0:=Lib.hid k2.out.1;have rd:=Lib.hid k2.out.2;refine' zQ (v:= .pointer (some ⟨p,0,none⟩)) (w':=G) rfl (by rw[gs,d3];go_simp) d4.out ?_;clear d3 gs;refine ag ?_
   (try simp only[reduceIte,Nat.reduceEqDiff,wpTree,attachW,List.getElem?_cons_zero,List.getElem?_cons_succ])
   refine ag ?_;intro k g;simp only[List.mem_cons,List.not_mem_nil,or_false]at g;rcases g with rfl|rfl
   ·simp only[reduceIte,Nat.reduceEqDiff,wpTree,attachW,List.getElem?_cons_zero,List.getElem?_cons_succ];refine zZ ?_;refine(i.out _).mono ?_;rintro e a0 ⟨rfl,hb⟩;have gt:Hid (af a a0):=aa d4.out hb;have p5:=Lib.hid (g0.out.below hb);clear hb;refine⟨_,rfl,gt.out,jO ?_⟩;refine ag ?_
    (try simp only[reduceIte,Nat.reduceEqDiff,wpTree,attachW,List.getElem?_cons_zero,List.getElem?_cons_succ])
    repeat refine zO j.out ?_
    obtain⟨a1,d5⟩:∃d,d=a0.alloc (.cells #[.int .i64 0] 3):=⟨_,rfl⟩;obtain⟨H,d6⟩:∃b,b=a0.heap.size:=⟨_,rfl⟩;have m8:Hid (Below a0.heap.size a0 a1):=by show Below _ _ _;rw[d5];exact ax _ _
    have m9:Hid (af a a1):=aa gt.out m8.out;have k3:Hid (ae a1 H #[.int .i64 0] 3/\a.heap.size<=H):=by show _/\_;rw[d5,d6];exact⟨ae.new _ _ _ _ oS,gt.out.size⟩
    have k4:Hid (p≠H):=by show _≠_;rw[d6];exact Nat.ne_of_lt (ar p5.out)
    have tx:=Lib.hid (p5.out.below m8.out);have g1:=Lib.hid k3.out.1;have wo:=Lib.hid k3.out.2;refine' zQ (v:= .pointer (some ⟨H,0,none⟩)) (w':=a1) rfl (by rw[d6,d5];go_simp) m9.out ?_;clear d5 d6;obtain⟨cs,bf⟩:∃d,d=a1.setCell ⟨H,0,none⟩ (.int .i64 (t:Int)):=⟨_,rfl⟩;have na:Hid (af a cs):=by show Below _ _ _;rw[bf];exact m9.out.setCell (by exact wo.out) _
    have ty:Hid (ae cs H #[.int .i64 (t:Int)] 3):=by show ae _ _ _ _;rw[bf];exact g1.out.eW _
    have fc:=Lib.hid (tx.out.cj ⟨H,0,none⟩ (.int .i64 (t:Int)) (k4.out.symm.symm));rw[<-bf]at fc;refine' aY (w':=cs) rfl (by rw[bf];exact bF rfl ⟨H,0,none⟩ t rfl rfl (g1.out.cell 0 _ rfl) (frozen_of_row _ _ _ _ _ g1.out)) na.out ?_;simp only[yQ,yU,yX,yY];clear bf;obtain⟨f7,bi⟩:∃d,d=cs.setCell ⟨p,0,none⟩ (.int .i64 (f:Int)):=⟨_,rfl⟩;have nb:Hid (af a f7):=by show Below _ _ _;rw[bi];exact na.out.setCell (by exact rd.out) _
    have t0:Hid (ae f7 p #[.int .i64 (f:Int)] 3):=by show ae _ _ _ _;rw[bi];exact fc.out.eW _
    have qi:=Lib.hid (ty.out.cj ⟨p,0,none⟩ (.int .i64 (f:Int)) (k4.out.symm));rw[<-bi]at qi;refine' aY (w':=f7) rfl (by rw[bi];exact bF rfl ⟨p,0,none⟩ f rfl rfl (fc.out.cell 0 _ rfl) (frozen_of_row _ _ _ _ _ fc.out)) nb.out ?_;simp only[yQ,yU,yX,yY];clear bi;refine ag ?_;clear i n;go_wp2;go_ret;exact⟨_,_,rfl,⟨t0.out,qi.out⟩,aa q.out nb.out⟩
   ·simp only[reduceIte,Nat.reduceEqDiff,wpTree,attachW,List.getElem?_cons_zero,List.getElem?_cons_succ];obtain⟨cv,d7⟩:∃d,d=G.alloc (.cells #[.int .i64 0] 3):=⟨_,rfl⟩;obtain⟨J,d8⟩:∃b,b=G.heap.size:=⟨_,rfl⟩;have nc:Hid (Below G.heap.size G cv):=by show Below _ _ _;rw[d7];exact ax _ _
    have nl:Hid (af a cv):=aa d4.out nc.out;have k5:Hid (ae cv J #[.int .i64 0] 3/\a.heap.size<=J):=by show _/\_;rw[d7,d8];exact⟨ae.new _ _ _ _ oS,d4.out.size⟩
    have k7:Hid (p≠J):=by show _≠_;rw[d8];exact Nat.ne_of_lt (ar g0.out)
    have t1:=Lib.hid (g0.out.below nc.out);have t2:=Lib.hid k5.out.1;have wp:=Lib.hid k5.out.2;refine' zQ (v:= .pointer (some ⟨J,0,none⟩)) (w':=cv) rfl (by rw[d8,d7];go_simp) nl.out ?_;clear d7 d8;refine ag ?_
    (try simp only[reduceIte,Nat.reduceEqDiff,wpTree,attachW,List.getElem?_cons_zero,List.getElem?_cons_succ])
    refine zZ ?_;refine(i.out _).mono ?_;rintro e k9 ⟨rfl,hb⟩;have no:Hid (af a k9):=aa nl.out hb;have g2:=Lib.hid (t2.out.below hb);have t3:=Lib.hid (t1.out.below hb);clear hb;refine⟨_,rfl,no.out,jO ?_⟩
    repeat refine zO j.out ?_
    obtain⟨cx,bo⟩:∃d,d=k9.setCell ⟨J,0,none⟩ (.int .i64 (t:Int)):=⟨_,rfl⟩;have np:Hid (af a cx):=by show Below _ _ _;rw[bo];exact no.out.setCell (by exact wp.out) _
    have t4:Hid (ae cx J #[.int .i64 (t:Int)] 3):=by show ae _ _ _ _;rw[bo];exact g2.out.eW _
    have fd:=Lib.hid (t3.out.cj ⟨J,0,none⟩ (.int .i64 (t:Int)) (k7.out.symm.symm));rw[<-bo]at fd;refine' aY (w':=cx) rfl (by rw[bo];exact bF rfl ⟨J,0,none⟩ t rfl rfl (g2.out.cell 0 _ rfl) (frozen_of_row _ _ _ _ _ g2.out)) np.out ?_;simp only[yQ,yU,yX,yY];clear bo;obtain⟨f8,bq⟩:∃d,d=cx.setCell ⟨p,0,none⟩ (.int .i64 (f:Int)):=⟨_,rfl⟩;have nx:Hid (af a f8):=by show Below _ _ _;rw[bq];exact np.out.setCell (by exact rd.out) _
    have t5:Hid (ae f8 p #[.int .i64 (f:Int)] 3):=by show ae _ _ _ _;rw[bq];exact fd.out.eW _
    have qr:=Lib.hid (t4.out.cj ⟨p,0,none⟩ (.int .i64 (f:Int)) (k7.out.symm));rw[<-bq]at qr;refine' aY (w':=f8) rfl (by rw[bq];exact bF rfl ⟨p,0,none⟩ f rfl rfl (fd.out.cell 0 _ rfl) (frozen_of_row _ _ _ _ _ fd.out)) nx.out ?_;simp only[yQ,yU,yX,yY];clear bq;refine ag ?_;clear i n;go_wp2;go_ret;exact⟨_,_,rfl,⟨t5.out,qr.out⟩,aa q.out nx.out⟩
 ·simp only[reduceIte,Nat.reduceEqDiff,wpTree,attachW,List.getElem?_cons_zero,List.getElem?_cons_succ];obtain⟨K,d9⟩:∃d,d=a.drew.alloc (.cells #[.int .i64 0] 3):=⟨_,rfl⟩;obtain⟨l,gv⟩:∃b,b=a.drew.heap.size:=⟨_,rfl⟩;have sp:Hid (Below a.drew.heap.size a.drew K):=by show Below _ _ _;rw[d9];exact ax _ _
  have ea:Hid (af a K):=aa V.out sp.out;have la:Hid (ae K l #[.int .i64 0] 3/\a.heap.size<=l):=by show _/\_;rw[d9,gv];exact⟨ae.new _ _ _ _ oS,V.out.size⟩
  have g3:=Lib.hid la.out.1;have io:=Lib.hid la.out.2;refine' zQ (v:= .pointer (some ⟨l,0,none⟩)) (w':=K) rfl (by rw[gv,d9];go_simp) ea.out ?_;clear d9 gv;refine ag ?_
  (try simp only[reduceIte,Nat.reduceEqDiff,wpTree,attachW,List.getElem?_cons_zero,List.getElem?_cons_succ])
  refine ag ?_;intro k g;simp only[List.mem_cons,List.not_mem_nil,or_false]at g;rcases g with rfl|rfl
  ·simp only[reduceIte,Nat.reduceEqDiff,wpTree,attachW,List.getElem?_cons_zero,List.getElem?_cons_succ];refine zZ ?_;refine(n.out _).mono ?_;rintro e a2 ⟨rfl,hb⟩;have ec:Hid (af a a2):=aa ea.out hb;have g4:=Lib.hid (g3.out.below hb);clear hb;refine⟨_,rfl,ec.out,jO ?_⟩;refine ag ?_
   (try simp only[reduceIte,Nat.reduceEqDiff,wpTree,attachW,List.getElem?_cons_zero,List.getElem?_cons_succ])
   repeat refine zO j.out ?_
   refine ag ?_;intro k g;simp only[List.mem_cons,List.not_mem_nil,or_false]at g;rcases g with rfl|rfl
   ·simp only[reduceIte,Nat.reduceEqDiff,wpTree,attachW,List.getElem?_cons_zero,List.getElem?_cons_succ];refine zZ ?_;refine(i.out _).mono ?_;rintro e a3 ⟨rfl,hb⟩;have gx:Hid (af a a3):=aa ec.out hb;have qs:=Lib.hid (g4.out.below hb);clear hb;refine⟨_,rfl,gx.out,jO ?_⟩;refine ag ?_
    (try simp only[reduceIte,Nat.reduceEqDiff,wpTree,attachW,List.getElem?_cons_zero,List.getElem?_cons_succ])
    repeat refine zO j.out ?_
    obtain⟨a4,ed⟩:∃d,d=a3.alloc (.cells #[.int .i64 0] 3):=⟨_,rfl⟩;obtain⟨M,ef⟩:∃b,b=a3.heap.size:=⟨_,rfl⟩;have nz:Hid (Below a3.heap.size a3 a4):=by show Below _ _ _;rw[ed];exact ax _ _
    have n0:Hid (af a a4):=aa gx.out nz.out;have lc:Hid (ae a4 M #[.int .i64 0] 3/\a.heap.size<=M):=by show _/\_;rw[ed,ef];exact⟨ae.new _ _ _ _ oS,gx.out.size⟩
    have li:Hid (l≠M):=by show _≠_;rw[ef];exact Nat.ne_of_lt (ar qs.out)
    have g5:=Lib.hid (qs.out.below nz.out);have t6:=Lib.hid lc.out.1;have wq:=Lib.hid lc.out.2;refine' zQ (v:= .pointer (some ⟨M,0,none⟩)) (w':=a4) rfl (by rw[ef,ed];go_simp) n0.out ?_;clear ed ef;obtain⟨cy,bs⟩:∃d,d=a4.setCell ⟨l,0,none⟩ (.int .i64 (t:Int)):=⟨_,rfl⟩;have n5:Hid (af a cy):=by show Below _ _ _;rw[bs];exact n0.out.setCell (by exact io.out) _
    have t7:Hid (ae cy l #[.int .i64 (t:Int)] 3):=by show ae _ _ _ _;rw[bs];exact g5.out.eW _
    have fn:=Lib.hid (t6.out.cj ⟨l,0,none⟩ (.int .i64 (t:Int)) (li.out.symm));rw[<-bs]at fn;refine' aY (w':=cy) rfl (by rw[bs];exact bF rfl ⟨l,0,none⟩ t rfl rfl (g5.out.cell 0 _ rfl) (frozen_of_row _ _ _ _ _ g5.out)) n5.out ?_;simp only[yQ,yU,yX,yY];clear bs;obtain⟨f9,bt⟩:∃d,d=cy.setCell ⟨M,0,none⟩ (.int .i64 (f:Int)):=⟨_,rfl⟩;have n6:Hid (af a f9):=by show Below _ _ _;rw[bt];exact n5.out.setCell (by exact wq.out) _
    have t8:Hid (ae f9 M #[.int .i64 (f:Int)] 3):=by show ae _ _ _ _;rw[bt];exact fn.out.eW _
    have q0:=Lib.hid (t7.out.cj ⟨M,0,none⟩ (.int .i64 (f:Int)) (li.out));rw[<-bt]at q0;refine' aY (w':=f9) rfl (by rw[bt];exact bF rfl ⟨M,0,none⟩ f rfl rfl (fn.out.cell 0 _ rfl) (frozen_of_row _ _ _ _ _ fn.out)) n6.out ?_;simp only[yQ,yU,yX,yY];clear bt;refine ag ?_;clear i n;go_wp2;go_ret;exact⟨_,_,rfl,⟨t8.out,q0.out⟩,aa q.out n6.out⟩
   ·simp only[reduceIte,Nat.reduceEqDiff,wpTree,attachW,List.getElem?_cons_zero,List.getElem?_cons_succ];obtain⟨c2,eh⟩:∃d,d=a2.alloc (.cells #[.int .i64 0] 3):=⟨_,rfl⟩;obtain⟨N,el⟩:∃b,b=a2.heap.size:=⟨_,rfl⟩;have n7:Hid (Below a2.heap.size a2 c2):=by show Below _ _ _;rw[eh];exact ax _ _
    have n8:Hid (af a c2):=aa ec.out n7.out;have ll:Hid (ae c2 N #[.int .i64 0] 3/\a.heap.size<=N):=by show _/\_;rw[eh,el];exact⟨ae.new _ _ _ _ oS,ec.out.size⟩
    have lm:Hid (l≠N):=by show _≠_;rw[el];exact Nat.ne_of_lt (ar g4.out)
    have t9:=Lib.hid (g4.out.below n7.out);have ul:=Lib.hid ll.out.1;have ws:=Lib.hid ll.out.2;refine' zQ (v:= .pointer (some ⟨N,0,none⟩)) (w':=c2) rfl (by rw[el,eh];go_simp) n8.out ?_;clear eh el;refine ag ?_
    (try simp only[reduceIte,Nat.reduceEqDiff,wpTree,attachW,List.getElem?_cons_zero,List.getElem?_cons_succ])
    refine zZ ?_;refine(i.out _).mono ?_;rintro e ls ⟨rfl,hb⟩;have n9:Hid (af a ls):=aa n8.out hb;have g6:=Lib.hid (t9.out.below hb);have un:=Lib.hid (ul.out.below hb);clear hb;refine⟨_,rfl,n9.out,jO ?_⟩
    repeat refine zO j.out ?_
    obtain⟨c3,bv⟩:∃d,d=ls.setCell ⟨l,0,none⟩ (.int .i64 (t:Int)):=⟨_,rfl⟩;have oa:Hid (af a c3):=by show Below _ _ _;rw[bv];exact n9.out.setCell (by exact io.out) _
    have up:Hid (ae c3 l #[.int .i64 (t:Int)] 3):=by show ae _ _ _ _;rw[bv];exact g6.out.eW _
    have fo:=Lib.hid (un.out.cj ⟨l,0,none⟩ (.int .i64 (t:Int)) (lm.out.symm));rw[<-bv]at fo;refine' aY (w':=c3) rfl (by rw[bv];exact bF rfl ⟨l,0,none⟩ t rfl rfl (g6.out.cell 0 _ rfl) (frozen_of_row _ _ _ _ _ g6.out)) oa.out ?_;simp only[yQ,yU,yX,yY];clear bv;obtain⟨ga,bx⟩:∃d,d=c3.setCell ⟨N,0,none⟩ (.int .i64 (f:Int)):=⟨_,rfl⟩;have ob:Hid (af a ga):=by show Below _ _ _;rw[bx];exact oa.out.setCell (by exact ws.out) _
    have us:Hid (ae ga N #[.int .i64 (f:Int)] 3):=by show ae _ _ _ _;rw[bx];exact fo.out.eW _
    have q1:=Lib.hid (up.out.cj ⟨N,0,none⟩ (.int .i64 (f:Int)) (lm.out));rw[<-bx]at q1;refine' aY (w':=ga) rfl (by rw[bx];exact bF rfl ⟨N,0,none⟩ f rfl rfl (fo.out.cell 0 _ rfl) (frozen_of_row _ _ _ _ _ fo.out)) ob.out ?_;simp only[yQ,yU,yX,yY];clear bx;refine ag ?_;clear i n;go_wp2;go_ret;exact⟨_,_,rfl,⟨us.out,q1.out⟩,aa q.out ob.out⟩
  ·simp only[reduceIte,Nat.reduceEqDiff,wpTree,attachW,List.getElem?_cons_zero,List.getElem?_cons_succ];obtain⟨c4,em⟩:∃d,d=K.alloc (.cells #[.int .i64 0] 3):=⟨_,rfl⟩;obtain⟨O,en⟩:∃b,b=K.heap.size:=⟨_,rfl⟩;have oi:Hid (Below K.heap.size K c4):=by show Below _ _ _;rw[em];exact ax _ _
   have oj:Hid (af a c4):=aa ea.out oi.out;have lv:Hid (ae c4 O #[.int .i64 0] 3/\a.heap.size<=O):=by show _/\_;rw[em,en];exact⟨ae.new _ _ _ _ oS,ea.out.size⟩
   have lw:Hid (l≠O):=by show _≠_;rw[en];exact Nat.ne_of_lt (ar g3.out)
   have ut:=Lib.hid (g3.out.below oi.out);have vd:=Lib.hid lv.out.1;have wt:=Lib.hid lv.out.2;refine' zQ (v:= .pointer (some ⟨O,0,none⟩)) (w':=c4) rfl (by rw[en,em];go_simp) oj.out ?_;clear em en;refine ag ?_
   (try simp only[reduceIte,Nat.reduceEqDiff,wpTree,attachW,List.getElem?_cons_zero,List.getElem?_cons_succ])
   refine zZ ?_;refine(n.out _).mono ?_;rintro e rx ⟨rfl,hb⟩;have ol:Hid (af a rx):=aa oj.out hb;have vp:=Lib.hid (ut.out.below hb);have vq:=Lib.hid (vd.out.below hb);clear hb;refine⟨_,rfl,ol.out,jO ?_⟩
   repeat refine zO j.out ?_
   refine zZ ?_;refine(i.out _).mono ?_;rintro e lx ⟨rfl,hb⟩;have om:Hid (af a lx):=aa ol.out hb;have g7:=Lib.hid (vp.out.below hb);have vr:=Lib.hid (vq.out.below hb);clear hb;refine⟨_,rfl,om.out,jO ?_⟩
   repeat refine zO j.out ?_
   obtain⟨c5,bz⟩:∃d,d=lx.setCell ⟨l,0,none⟩ (.int .i64 (t:Int)):=⟨_,rfl⟩;have oo:Hid (af a c5):=by show Below _ _ _;rw[bz];exact om.out.setCell (by exact io.out) _
   have vs:Hid (ae c5 l #[.int .i64 (t:Int)] 3):=by show ae _ _ _ _;rw[bz];exact g7.out.eW _
   have fr:=Lib.hid (vr.out.cj ⟨l,0,none⟩ (.int .i64 (t:Int)) (lw.out.symm));rw[<-bz]at fr;refine' aY (w':=c5) rfl (by rw[bz];exact bF rfl ⟨l,0,none⟩ t rfl rfl (g7.out.cell 0 _ rfl) (frozen_of_row _ _ _ _ _ g7.out)) oo.out ?_;simp only[yQ,yU,yX,yY];clear bz;obtain⟨gb,b1⟩:∃d,d=c5.setCell ⟨O,0,none⟩ (.int .i64 (f:Int)):=⟨_,rfl⟩;have op:Hid (af a gb):=by show Below _ _ _;rw[b1];exact oo.out.setCell (by exact wt.out) _
   have vv:Hid (ae gb O #[.int .i64 (f:Int)] 3):=by show ae _ _ _ _;rw[b1];exact fr.out.eW _
   have q2:=Lib.hid (vs.out.cj ⟨O,0,none⟩ (.int .i64 (f:Int)) (lw.out));rw[<-b1]at q2;refine' aY (w':=gb) rfl (by rw[b1];exact bF rfl ⟨O,0,none⟩ f rfl rfl (fr.out.cell 0 _ rfl) (frozen_of_row _ _ _ _ _ fr.out)) op.out ?_;simp only[yQ,yU,yX,yY];clear b1;refine ag ?_;clear i n;go_wp2;go_ret;exact⟨_,_,rfl,⟨vv.out,q2.out⟩,aa q.out op.out⟩
 ·simp only[reduceIte,Nat.reduceEqDiff,wpTree,attachW,List.getElem?_cons_zero,List.getElem?_cons_succ];obtain⟨P,eq⟩:∃d,d=a.drew.alloc (.cells #[.int .i64 0] 3):=⟨_,rfl⟩;obtain⟨m,gy⟩:∃b,b=a.drew.heap.size:=⟨_,rfl⟩;have st:Hid (Below a.drew.heap.size a.drew P):=by show Below _ _ _;rw[eq];exact ax _ _
  have er:Hid (af a P):=aa V.out st.out;have ly:Hid (ae P m #[.int .i64 0] 3/\a.heap.size<=m):=by show _/\_;rw[eq,gy];exact⟨ae.new _ _ _ _ oS,V.out.size⟩
  have g8:=Lib.hid ly.out.1;have ip:=Lib.hid ly.out.2;refine' zQ (v:= .pointer (some ⟨m,0,none⟩)) (w':=P) rfl (by rw[gy,eq];go_simp) er.out ?_;clear eq gy;refine ag ?_
  (try simp only[reduceIte,Nat.reduceEqDiff,wpTree,attachW,List.getElem?_cons_zero,List.getElem?_cons_succ])
  refine ag ?_;intro k g;simp only[List.mem_cons,List.not_mem_nil,or_false]at g;rcases g with rfl|rfl
  ·simp only[reduceIte,Nat.reduceEqDiff,wpTree,attachW,List.getElem?_cons_zero,List.getElem?_cons_succ];refine zZ ?_;refine(n.out _).mono ?_;rintro e a5 ⟨rfl,hb⟩;have es:Hid (af a a5):=aa er.out hb;have g9:=Lib.hid (g8.out.below hb);clear hb;refine⟨_,rfl,es.out,jO ?_⟩;refine ag ?_
   (try simp only[reduceIte,Nat.reduceEqDiff,wpTree,attachW,List.getElem?_cons_zero,List.getElem?_cons_succ])
   repeat refine zO j.out ?_
   refine ag ?_;intro k g;simp only[List.mem_cons,List.not_mem_nil,or_false]at g;rcases g with rfl|rfl
   ·simp only[reduceIte,Nat.reduceEqDiff,wpTree,attachW,List.getElem?_cons_zero,List.getElem?_cons_succ];refine zZ ?_;refine(i.out _).mono ?_;rintro e a6 ⟨rfl,hb⟩;have gz:Hid (af a a6):=aa es.out hb;have q3:=Lib.hid (g9.out.below hb);clear hb;refine⟨_,rfl,gz.out,jO ?_⟩;refine ag ?_
    (try simp only[reduceIte,Nat.reduceEqDiff,wpTree,attachW,List.getElem?_cons_zero,List.getElem?_cons_succ])
    repeat refine zO j.out ?_
    obtain⟨a7,et⟩:∃d,d=a6.alloc (.cells #[.int .i64 0] 3):=⟨_,rfl⟩;obtain⟨Q,ew⟩:∃b,b=a6.heap.size:=⟨_,rfl⟩;have os:Hid (Below a6.heap.size a6 a7):=by show Below _ _ _;rw[et];exact ax _ _
    have ot:Hid (af a a7):=aa gz.out os.out;have l1:Hid (ae a7 Q #[.int .i64 0] 3/\a.heap.size<=Q):=by show _/\_;rw[et,ew];exact⟨ae.new _ _ _ _ oS,gz.out.size⟩
    have l2:Hid (m≠Q):=by show _≠_;rw[ew];exact Nat.ne_of_lt (ar q3.out)
    have vA:=Lib.hid (q3.out.below os.out);have ib:=Lib.hid l1.out.1;have ww:=Lib.hid l1.out.2;refine' zQ (v:= .pointer (some ⟨Q,0,none⟩)) (w':=a7) rfl (by rw[ew,et];go_simp) ot.out ?_;clear et ew;obtain⟨c6,b2⟩:∃d,d=a7.setCell ⟨Q,0,none⟩ (.int .i64 (t:Int)):=⟨_,rfl⟩;have ov:Hid (af a c6):=by show Below _ _ _;rw[b2];exact ot.out.setCell (by exact ww.out) _
    have vG:Hid (ae c6 Q #[.int .i64 (t:Int)] 3):=by show ae _ _ _ _;rw[b2];exact ib.out.eW _
    have fv:=Lib.hid (vA.out.cj ⟨Q,0,none⟩ (.int .i64 (t:Int)) (l2.out.symm.symm));rw[<-b2]at fv;refine' aY (w':=c6) rfl (by rw[b2];exact bF rfl ⟨Q,0,none⟩ t rfl rfl (ib.out.cell 0 _ rfl) (frozen_of_row _ _ _ _ _ ib.out)) ov.out ?_;simp only[yQ,yU,yX,yY];clear b2;obtain⟨gc,b3⟩:∃d,d=c6.setCell ⟨m,0,none⟩ (.int .i64 (f:Int)):=⟨_,rfl⟩;have o0:Hid (af a gc):=by show Below _ _ _;rw[b3];exact ov.out.setCell (by exact ip.out) _
    have v0:Hid (ae gc m #[.int .i64 (f:Int)] 3):=by show ae _ _ _ _;rw[b3];exact fv.out.eW _
    have q4:=Lib.hid (vG.out.cj ⟨m,0,none⟩ (.int .i64 (f:Int)) (l2.out.symm));rw[<-b3]at q4;refine' aY (w':=gc) rfl (by rw[b3];exact bF rfl ⟨m,0,none⟩ f rfl rfl (fv.out.cell 0 _ rfl) (frozen_of_row _ _ _ _ _ fv.out)) o0.out ?_;simp only[yQ,yU,yX,yY];clear b3;refine ag ?_;clear i n;go_wp2;go_ret;exact⟨_,_,rfl,⟨v0.out,q4.out⟩,aa q.out o0.out⟩
   ·simp only[reduceIte,Nat.reduceEqDiff,wpTree,attachW,List.getElem?_cons_zero,List.getElem?_cons_succ];obtain⟨c7,ex⟩:∃d,d=a5.alloc (.cells #[.int .i64 0] 3):=⟨_,rfl⟩;obtain⟨T,ey⟩:∃b,b=a5.heap.size:=⟨_,rfl⟩;have o1:Hid (Below a5.heap.size a5 c7):=by show Below _ _ _;rw[ex];exact ax _ _
    have o2:Hid (af a c7):=aa es.out o1.out;have l3:Hid (ae c7 T #[.int .i64 0] 3/\a.heap.size<=T):=by show _/\_;rw[ex,ey];exact⟨ae.new _ _ _ _ oS,es.out.size⟩
    have mb:Hid (m≠T):=by show _≠_;rw[ey];exact Nat.ne_of_lt (ar g9.out)
    have v1:=Lib.hid (g9.out.below o1.out);have v2:=Lib.hid l3.out.1;have wx:=Lib.hid l3.out.2;refine' zQ (v:= .pointer (some ⟨T,0,none⟩)) (w':=c7) rfl (by rw[ey,ex];go_simp) o2.out ?_;clear ex ey;refine ag ?_
    (try simp only[reduceIte,Nat.reduceEqDiff,wpTree,attachW,List.getElem?_cons_zero,List.getElem?_cons_succ])
    refine zZ ?_;refine(i.out _).mono ?_;rintro e md ⟨rfl,hb⟩;have o3:Hid (af a md):=aa o2.out hb;have ih:=Lib.hid (v2.out.below hb);have v3:=Lib.hid (v1.out.below hb);clear hb;refine⟨_,rfl,o3.out,jO ?_⟩
    repeat refine zO j.out ?_
    obtain⟨c8,b4⟩:∃d,d=md.setCell ⟨T,0,none⟩ (.int .i64 (t:Int)):=⟨_,rfl⟩;have pb:Hid (af a c8):=by show Below _ _ _;rw[b4];exact o3.out.setCell (by exact wx.out) _
    have v4:Hid (ae c8 T #[.int .i64 (t:Int)] 3):=by show ae _ _ _ _;rw[b4];exact ih.out.eW _
    have fw:=Lib.hid (v3.out.cj ⟨T,0,none⟩ (.int .i64 (t:Int)) (mb.out.symm.symm));rw[<-b4]at fw;refine' aY (w':=c8) rfl (by rw[b4];exact bF rfl ⟨T,0,none⟩ t rfl rfl (ih.out.cell 0 _ rfl) (frozen_of_row _ _ _ _ _ ih.out)) pb.out ?_;simp only[yQ,yU,yX,yY];clear b4;obtain⟨gd,b5⟩:∃d,d=c8.setCell ⟨m,0,none⟩ (.int .i64 (f:Int)):=⟨_,rfl⟩;have pd:Hid (af a gd):=by show Below _ _ _;rw[b5];exact pb.out.setCell (by exact ip.out) _
    have v5:Hid (ae gd m #[.int .i64 (f:Int)] 3):=by show ae _ _ _ _;rw[b5];exact fw.out.eW _
    have q5:=Lib.hid (v4.out.cj ⟨m,0,none⟩ (.int .i64 (f:Int)) (mb.out.symm));rw[<-b5]at q5;refine' aY (w':=gd) rfl (by rw[b5];exact bF rfl ⟨m,0,none⟩ f rfl rfl (fw.out.cell 0 _ rfl) (frozen_of_row _ _ _ _ _ fw.out)) pd.out ?_;simp only[yQ,yU,yX,yY];clear b5;refine ag ?_;clear i n;go_wp2;go_ret;exact⟨_,_,rfl,⟨v5.out,q5.out⟩,aa q.out pd.out⟩
  ·simp only[reduceIte,Nat.reduceEqDiff,wpTree,attachW,List.getElem?_cons_zero,List.getElem?_cons_succ];obtain⟨c9,ez⟩:∃d,d=P.alloc (.cells #[.int .i64 0] 3):=⟨_,rfl⟩;obtain⟨U,e0⟩:∃b,b=P.heap.size:=⟨_,rfl⟩;have pf:Hid (Below P.heap.size P c9):=by show Below _ _ _;rw[ez];exact ax _ _
   have pi:Hid (af a c9):=aa er.out pf.out;have me:Hid (ae c9 U #[.int .i64 0] 3/\a.heap.size<=U):=by show _/\_;rw[ez,e0];exact⟨ae.new _ _ _ _ oS,er.out.size⟩
   have mk:Hid (m≠U):=by show _≠_;rw[e0];exact Nat.ne_of_lt (ar g8.out)
   have v6:=Lib.hid (g8.out.below pf.out);have v7:=Lib.hid me.out.1;have wy:=Lib.hid me.out.2;refine' zQ (v:= .pointer (some ⟨U,0,none⟩)) (w':=c9) rfl (by rw[e0,ez];go_simp) pi.out ?_;clear ez e0;refine ag ?_
   (try simp only[reduceIte,Nat.reduceEqDiff,wpTree,attachW,List.getElem?_cons_zero,List.getElem?_cons_succ])
   refine zZ ?_;refine(n.out _).mono ?_;rintro e r0 ⟨rfl,hb⟩;have pl:Hid (af a r0):=aa pi.out hb;have v8:=Lib.hid (v7.out.below hb);have v9:=Lib.hid (v6.out.below hb);clear hb;refine⟨_,rfl,pl.out,jO ?_⟩
   repeat refine zO j.out ?_
   refine zZ ?_;refine(i.out _).mono ?_;rintro e ml ⟨rfl,hb⟩;have pm:Hid (af a ml):=aa pl.out hb;have ii:=Lib.hid (v8.out.below hb);have wd:=Lib.hid (v9.out.below hb);clear hb;refine⟨_,rfl,pm.out,jO ?_⟩
   repeat refine zO j.out ?_
   obtain⟨di,b6⟩:∃d,d=ml.setCell ⟨U,0,none⟩ (.int .i64 (t:Int)):=⟨_,rfl⟩;have pp:Hid (af a di):=by show Below _ _ _;rw[b6];exact pm.out.setCell (by exact wy.out) _
   have wf:Hid (ae di U #[.int .i64 (t:Int)] 3):=by show ae _ _ _ _;rw[b6];exact ii.out.eW _
   have fx:=Lib.hid (wd.out.cj ⟨U,0,none⟩ (.int .i64 (t:Int)) (mk.out.symm.symm));rw[<-b6]at fx;refine' aY (w':=di) rfl (by rw[b6];exact bF rfl ⟨U,0,none⟩ t rfl rfl (ii.out.cell 0 _ rfl) (frozen_of_row _ _ _ _ _ ii.out)) pp.out ?_;simp only[yQ,yU,yX,yY];clear b6;obtain⟨ge,b7⟩:∃d,d=di.setCell ⟨m,0,none⟩ (.int .i64 (f:Int)):=⟨_,rfl⟩;have pu:Hid (af a ge):=by show Below _ _ _;rw[b7];exact pp.out.setCell (by exact ip.out) _
   have wl:Hid (ae ge m #[.int .i64 (f:Int)] 3):=by show ae _ _ _ _;rw[b7];exact fx.out.eW _
   have rb:=Lib.hid (wf.out.cj ⟨m,0,none⟩ (.int .i64 (f:Int)) (mk.out.symm));rw[<-b7]at rb;refine' aY (w':=ge) rfl (by rw[b7];exact bF rfl ⟨m,0,none⟩ f rfl rfl (fx.out.cell 0 _ rfl) (frozen_of_row _ _ _ _ _ fx.out)) pu.out ?_;simp only[yQ,yU,yX,yY];clear b7;refine ag ?_;clear i n;go_wp2;go_ret;exact⟨_,_,rfl,⟨wl.out,rb.out⟩,aa q.out pu.out⟩
theorem xM (L:Nat) (w:World):Calls Tryz.prog 92 #[cn L true] w λe w'=>e= .returned (.func (Fn.func 137) #[] #[])/\Below w.heap.size w w':=by
 have a:=eV w L true;obtain⟨b,c⟩:=a.out _ (Below.refl _ _);go_enter Tryz.func92,Tryz.ntmps92;go_wp2;go_ret;exact⟨rfl,ax _ _⟩
theorem rm (L:Nat) (c:Bool) (w:World) (b:L<=32):Calls Tryz.prog 92 #[cn L c] w λe w'=>∃hb a,e= .returned (Gd c hb a)/\(c=false->HC L w' hb a)/\Below w.heap.size w w':=by
 cases c with
 |true=>
  refine(xM L w).mono ?_;rintro e w' ⟨rfl,hb⟩;exact⟨0,0,rfl,(λh=>by cases h),hb⟩
 |false=>
  refine(xK L w b).mono ?_;rintro e w' ⟨hb,a,rfl,hc,d⟩;exact⟨hb,a,rfl,λ_=>hc,d⟩
theorem J3 (L:Nat) (c:Bool) (i:Nat):rN L c i=if c=true then 4* (L-i)+9 else 4* (L-i)+12:=rfl
def fN (n:Nat) (w:World) (v:Value) (xs:List Pt):Prop:=SP w v xs/\∀A m k a,v= .slice A m k->A=some a->n<=a.block
theorem fN.bK {W:World} {base:Nat} {e:TypeId} {n:Nat} {v:Value} {xs:List Pt} (h:W.ownsRow base e 2 v n (xs.flatMap eS)):fN base W v xs:=by
 refine⟨SP.bK h,λA m k c e1 e2=>?_⟩;subst e1 e2;rcases h.2 with⟨a,-⟩|⟨g,cap,d,a,b,-⟩
 ·cases a
 ·injection a with a _ _;injection a with a;rw[a];exact b
theorem fN.below {n:Nat} {W a:World} {v:Value} {xs:List Pt} (h:fN n W v xs) (hb:Below W.heap.size W a):fN n a v xs:=⟨h.1.below hb,h.2⟩
theorem fN.mono {n m:Nat} {W:World} {v:Value} {xs:List Pt} (h:fN n W v xs) (b:m<=n):fN m W v xs:=⟨h.1,λA a k c e1 e2=>Nat.le_trans b (h.2 A a k c e1 e2)⟩
theorem za (a b c d:Value):(#[a,b]++#[c,d]:Array Value)=#[a,b,c,d]:=by simp
theorem kC (a b c d e:Value):(#[a,b]++#[c,d,e]:Array Value)=#[a,b,c,d,e]:=by simp
theorem GY (L:Nat) (w:World) (J:L<=32):Calls Tryz.prog 46 #[cn L true] w λe w'=>∃v,e= .returned v/\fN w.heap.size w' v (eX L true)/\Below w.heap.size w w':=by
 obtain⟨cy,c2,c6,c7,c8⟩:=info_parts rM;have M:=eV w L true;have c9:Hid (∀W,Calls Tryz.prog 92 #[cn L true] W λe w'=>∃hb F,e= .returned (.func (Fn.func 137) #[] #[])/\(true=false->HC L w' hb F)/\Below W.heap.size W w'):=λW=>rm L true W J;have b5:Hid (∀W,Calls Tryz.prog 85 #[cn L true] W λe w'=>e= .returned (.int .i64 ((aJ L true:Nat):Int))/\Below W.heap.size W w'):=λW=>qo L true W J;have b6:Hid (∀W,Calls Tryz.prog 89 #[cn L true] W λe w'=>e= .returned (.int .i64 ((iT L true:Nat):Int))/\Below W.heap.size W w'):=λW=>ux L true W J;have X:Hid (L<=32):=J;have di:=Lib.hid (jH (c:=true) J);have dl:=Lib.hid (room_le (c:=true) J);obtain⟨bs,bt⟩:=di.out;have cx:=dl.out;obtain⟨N,b7⟩:∃N,N=aJ L true-1:=⟨_,rfl⟩;have co:((aJ L true:Nat):Int)-1=(N:Int):=oO;have ds:=Lib.hid b7;have ef:N<=141:=oO;obtain⟨R,G⟩:∃R,R=iT L true:=⟨_,rfl⟩;rw[<-G]at b6 cx;clear b7 G;obtain⟨B,hB⟩:∃B,B=aJ L true:=⟨_,rfl⟩;rw[<-hB]at b5 bs bt co;clear hB;obtain⟨al,P⟩:∃al,al=w.alloc (bL L true):=⟨_,rfl⟩;have dv:Hid (Below w.heap.size w al):=by show Below _ _ _;rw[P];exact ax _ _
 have Y:Hid (ae al w.heap.size #[.int .i64 L,.bool true] 60):=by show ae _ _ _ _;rw[P];exact ae.new _ _ _ _ oS
 rw[<-P]at M;obtain⟨C,E⟩:=M.out _ (Below.refl _ _);rw[P]at C E;have dx:∀(W:World) (a:Addr) (g:Fn) (b c:Array Value),(store a (.func g b c)).run Tryz.prog W=stored Tryz.prog W a (.func g b c) .plain:=λW a g b c=>run_store _ W a _ _ rfl;go_enter Tryz.func46,Tryz.ntmps46
 go_wp2_with(first
  |(go_at_call 92;refine(c9.out _).mono ?_;rintro e K ⟨hb,F,rfl,b8,bb⟩;rw[<-P]at bb;have y:=Lib.hid bb;have b9:=Lib.hid b8;clear bb b8 C E;obtain⟨C,E⟩:=M.out _ y.out;have a7:w.heap.size<K.heap.size:=ar (Y.out.below y.out))
  |(go_at_call 85;refine(b5.out _).mono ?_;rintro e O ⟨rfl,ca⟩;have z:=Lib.hid ca;clear ca C E;obtain⟨C,E⟩:=M.out _ (aa (ah y.out _) z.out);have c3:w.heap.size<O.heap.size:=ar (Y.out.below (aa (ah y.out _) z.out)))
  |(go_at_call 89;refine(b6.out _).mono ?_;rintro e f ⟨rfl,cb⟩;have H:=Lib.hid cb;clear cb C E;obtain⟨C,E⟩:=M.out _ (aa (ah (aa (ah y.out _) z.out) _) H.out);have s3:w.heap.size<f.heap.size:=ar (Y.out.below (aa (ah (aa (ah y.out _) z.out) _) H.out)))
  |(at_make;refine wpList_make_own _ rfl _ _ _ rfl f.heap.size 47 cy _ 2 Tryz.underlying40 c2 c6 c7 .i64 .i64 _ R rfl rfl (by first|rfl|omega) (by rw[c8];omega) oM (Nat.le_refl _) ?_;intro am cp hg;have dy:=Lib.hid cp;have a0:Hid (Below f.heap.size f am):=(Below.refl _ _).grown hg (Nat.le_refl _) (λq hq=>by cases hq);clear cp hg C E;obtain⟨C,E⟩:=M.out _ (aa (aa (ah (aa (ah y.out _) z.out) _) H.out) a0.out);have c4:w.heap.size<am.heap.size:=ar (Y.out.below (aa (aa (ah (aa (ah y.out _) z.out) _) H.out) a0.out))))
 obtain⟨x,Z⟩:∃x,x=am.alloc (.cells #[.slice (some ⟨f.heap.size,0,none⟩) 0 R] 40):=⟨_,rfl⟩;obtain⟨u,a1⟩:∃u,u=am.heap.size:=⟨_,rfl⟩;have Q:Hid (Below f.heap.size f x):=by show Below _ _ _;rw[Z];exact ah a0.out _
 obtain⟨p,bd⟩:∃p,p=K.heap.size:=⟨_,rfl⟩;obtain⟨lb,be⟩:∃lb,lb=O.heap.size:=⟨_,rfl⟩;have ce:ae (K.alloc (.cells #[.func (Fn.func 137) #[] #[]] 77)) K.heap.size #[.func (Fn.func 137) #[] #[]] 77:=ae.new _ _ _ _ oS;have cg:ae (O.alloc (.cells #[.int .i64 (N:Int)] 3)) O.heap.size #[.int .i64 (N:Int)] 3:=ae.new _ _ _ _ oS;have ab:Below O.heap.size O f:=cQ H.out;have d0:Hid (mf L true p lb hb F x):=by
  show mf _ _ _ _ _ _ _;refine⟨?_,?_,λe=>?_⟩
  ·rw[bd];exact((ce.below z.out).below ab).below Q.out
  ·rw[be,<-ds.out];exact(cg.below H.out).below Q.out
  ·have bv:Below K.heap.size K x:=aa (aa (cQ z.out) ab) Q.out;have bx:HC L K hb F:=by first|exact b9.out e|exact b9.out trivial|cases e
   exact⟨bx.1.below bv,bx.2.below bv⟩
 have ch:Hid (Below w.heap.size w f):=aa dv.out (aa y.out (aa (cQ z.out) ab));have bf:Hid (ae x w.heap.size #[.int .i64 L,.bool true] 60):=((((Y.out.below y.out).below (cQ z.out)).below ab)).below Q.out;have ci:Hid (BP f.heap.size f x u (iL L true 0)):=by
  show BP _ _ _ _ _;refine⟨Q.out,⟨some ⟨f.heap.size,0,none⟩,R,?_,?_⟩,?_,?_⟩
  ·show ae _ _ #[.slice (some ⟨f.heap.size,0,none⟩) 0 R] _;rw[Z,a1];exact ae.new _ _ _ _ oS
  ·show World.ownsRow _ _ _ _ (.slice (some ⟨f.heap.size,0,none⟩) 0 R) 0 [];rw[Z];exact ao dy.out (ax _ _)
  ·rw[a1];exact a0.out.size
  ·exact Q.out.size
 have ap:x.cell? ⟨w.heap.size,0,none⟩=some (.int .i64 L):=bf.out.cell 0 _ rfl;rw[<-Z,<-a1,<-bd,<-be];have S:Hid (aP x x):=aP.refl _;clear a7 c3 s3 c4 dx Z a1 bd be ce cg ab C E P co cx bs bt;go_wp2;clear ap;go_loopw [23] (λa8 wr=>∃i:Nat,i<=L/\a8= .int .i64 i/\Hid (BP f.heap.size f wr u (iL L true i)/\aP x wr)) (λa8 _=>L-(intOf a8).toNat)
 case atStart=>exact⟨0,Nat.zero_le _,rfl,ci.out,S.out⟩
 case round=>
  clear ci S;obtain⟨i,ec,rfl,G⟩:=hrel;by_cases d1:i<L
  ·obtain⟨d,bz⟩:∃d,d=L-i:=⟨_,rfl⟩;have d2:(L:Int)-(i:Int)=(d:Int):=oO;obtain⟨r,av⟩:∃r,r=rN L true i:=⟨_,rfl⟩;have a2:r<=140:=by rw[av];exact EL J
   have T:=Lib.hid av;have d3:4* (d:Int)+9=(r:Int):=by have a9:=J3 L true i;simp at a9;rw[av,a9,bz];omega
   have ed:d<=32:=oO;obtain⟨o,ac⟩:∃o,o=wr.alloc (.cells #[.int .i64 (i:Int)] 3):=⟨_,rfl⟩;obtain⟨t,U⟩:∃t,t=wr.heap.size:=⟨_,rfl⟩;have ck:Hid (Below wr.heap.size wr o):=by show Below _ _ _;rw[ac];exact ax _ _
   have ad:Hid (ae o t #[.int .i64 (i:Int)] 3):=by show ae _ _ _ _;rw[ac,U];exact ae.new _ _ _ _ oS
   have S:Hid (aP x o):=G.out.2.trans (aP.below ck.out);have d4:Hid (BP f.heap.size f o u (iL L true i++sL L true i 0)):=by show BP _ _ _ _ _;rw[show sL L true i 0=[]from rfl,List.append_nil];exact G.out.1.below ck.out
   have a3:Hid (mf L true p lb hb F o):=d0.out.dz S.out;have ap:o.cell? ⟨w.heap.size,0,none⟩=some (.int .i64 L):=(bf.out.iQ S.out rfl).cell 0 _ rfl;have V:o.cell? ⟨t,0,none⟩=some (.int .i64 (i:Int)):=ad.out.cell 0 _ rfl;have a4:=Lib.hid d1;have a7:w.heap.size<wr.heap.size:=ar (bf.out.iQ G.out.2 rfl);rw[ac]at ap V;rw[U]at V;clear bz av;have cq:Hid (∀W,aP o W->∀j k,j<r->k<2->Calls Tryz.prog 94 #[.int .i64 ((j:Nat):Int),.int .i64 ((k:Nat):Int),.pointer (some ⟨p,0,none⟩),.pointer (some ⟨t,0,none⟩)] W λe w'=>e= .returned (.agg #[.int .i64 (((eR L true i 0 j k).1:Nat):Int),.int .i64 (((eR L true i 0 j k).2:Nat):Int)])/\Below W.heap.size W w'):=by
    show∀W,_;intro W l j k m n;exact Dc L true p lb t hb F i j k W X.out a4.out (by rw[<-T.out];exact m) n (a3.out.dz l) (ad.out.iQ l rfl)
   have cr:Hid (∀W,aP o W->∀j k,j<r->k<2->Calls Tryz.prog 95 #[.int .i64 ((j:Nat):Int),.int .i64 ((k:Nat):Int),.pointer (some ⟨p,0,none⟩),.pointer (some ⟨t,0,none⟩),.pointer (some ⟨lb,0,none⟩)] W λe w'=>e= .returned (.agg #[.int .i64 (((eR L true i 1 j k).1:Nat):Int),.int .i64 (((eR L true i 1 j k).2:Nat):Int)])/\Below W.heap.size W w'):=by
    show∀W,_;intro W l j k m n;exact DP L true p lb t hb F i j k W X.out a4.out (by rw[<-T.out];exact m) n (a3.out.dz l) (ad.out.iQ l rfl)
   have cs:Hid (∀W,aP o W->∀j k,j<r->k<2->Calls Tryz.prog 96 #[.int .i64 ((j:Nat):Int),.int .i64 ((k:Nat):Int),.pointer (some ⟨p,0,none⟩),.pointer (some ⟨lb,0,none⟩),.pointer (some ⟨t,0,none⟩)] W λe w'=>e= .returned (.agg #[.int .i64 (((eR L true i 2 j k).1:Nat):Int),.int .i64 (((eR L true i 2 j k).2:Nat):Int)])/\Below W.heap.size W w'):=by
    show∀W,_;intro W l j k m n;exact DM L true p lb t hb F i j k W X.out a4.out (by rw[<-T.out];exact m) n (a3.out.dz l) (ad.out.iQ l rfl)
   have cv:Hid (∀W,aP o W->∀j k,j<r->k<2->Calls Tryz.prog 97 #[.int .i64 ((j:Nat):Int),.int .i64 ((k:Nat):Int),.pointer (some ⟨p,0,none⟩),.pointer (some ⟨lb,0,none⟩),.pointer (some ⟨t,0,none⟩)] W λe w'=>e= .returned (.agg #[.int .i64 (((eR L true i 3 j k).1:Nat):Int),.int .i64 (((eR L true i 3 j k).2:Nat):Int)])/\Below W.heap.size W w'):=by
    show∀W,_;intro W l j k m n;exact De L true p lb t hb F i j k W X.out a4.out (by rw[<-T.out];exact m) n (a3.out.dz l) (ad.out.iQ l rfl)
   have a5:Hid (∀s,s<=4->(iL L true i++sL L true i s).length<=60000):=by
    show∀s,_;intro s hs;rw[List.length_append,mN];have a9:=Er (c:=true) X.out i;have ea:s* (2* rN L true i)<=4* (2* 140):=Nat.mul_le_mul hs (by rw[<-T.out];omega);omega
   have a6:Hid (∀s,iL L true i++sL L true i (s+1)=iL L true i++sL L true i s++jL L true i s r):=by
    show∀s,_;intro s;rw[xh,<-T.out,List.append_assoc]
   rw[<-U]at V;rw[U]at V;go_wp2_with fail
   rw[<-ac,<-U];clear a7 ap V d3 d2 ac U;refine(jj f.heap.size f _ u (iL L true i++sL L true i 0) 94 #[.pointer (some ⟨p,0,none⟩),.pointer (some ⟨t,0,none⟩)] L i 0 r true d4.out (a5.out 0 oO) a2 (λargs W=>by go_simp) (λW l j m=>by rw[za];exact cq.out W (l) j 0 m oO) (λW l j m=>by rw[za];exact cq.out W (l) j 1 m oO)).mono ?_;rintro e v0 ⟨rfl,D,n⟩;have y:Hid (BP f.heap.size f v0 u (iL L true i++sL L true i 1)):=by show BP _ _ _ _ _;rw[a6.out 0];exact D
   have bi:Hid (aP o v0):=n;clear D n;go_wp2_with fail
   refine(jj f.heap.size f _ u (iL L true i++sL L true i 1) 95 #[.pointer (some ⟨p,0,none⟩),.pointer (some ⟨t,0,none⟩),.pointer (some ⟨lb,0,none⟩)] L i 1 r true y.out (a5.out 1 oO) a2 (λargs W=>by go_simp) (λW l j m=>by rw[kC];exact cr.out W ((bi.out.trans l)) j 0 m oO) (λW l j m=>by rw[kC];exact cr.out W ((bi.out.trans l)) j 1 m oO)).mono ?_;rintro e v1 ⟨rfl,D,n⟩;have z:Hid (BP f.heap.size f v1 u (iL L true i++sL L true i 2)):=by show BP _ _ _ _ _;rw[a6.out 1];exact D
   have bo:Hid (aP o v1):=bi.out.trans n;clear D n;go_wp2_with fail
   refine(jj f.heap.size f _ u (iL L true i++sL L true i 2) 96 #[.pointer (some ⟨p,0,none⟩),.pointer (some ⟨lb,0,none⟩),.pointer (some ⟨t,0,none⟩)] L i 2 r true z.out (a5.out 2 oO) a2 (λargs W=>by go_simp) (λW l j m=>by rw[kC];exact cs.out W ((bo.out.trans l)) j 0 m oO) (λW l j m=>by rw[kC];exact cs.out W ((bo.out.trans l)) j 1 m oO)).mono ?_;rintro e b1 ⟨rfl,D,n⟩;have H:Hid (BP f.heap.size f b1 u (iL L true i++sL L true i 3)):=by show BP _ _ _ _ _;rw[a6.out 2];exact D
   have bq:Hid (aP o b1):=bo.out.trans n;clear D n;go_wp2_with fail
   refine(jj f.heap.size f _ u (iL L true i++sL L true i 3) 97 #[.pointer (some ⟨p,0,none⟩),.pointer (some ⟨lb,0,none⟩),.pointer (some ⟨t,0,none⟩)] L i 3 r true H.out (a5.out 3 oO) a2 (λargs W=>by go_simp) (λW l j m=>by rw[kC];exact cv.out W ((bq.out.trans l)) j 0 m oO) (λW l j m=>by rw[kC];exact cv.out W ((bq.out.trans l)) j 1 m oO)).mono ?_;rintro e b2 ⟨rfl,D,n⟩;have d5:Hid (BP f.heap.size f b2 u (iL L true i++sL L true i 4)):=by show BP _ _ _ _ _;rw[a6.out 3];exact D
   have d6:Hid (aP o b2):=bq.out.trans n;clear D n;have d7:Hid (iL L true (i+1)=iL L true i++sL L true i 4):=sT L true i;go_wp2;exact⟨⟨i+1,by omega,by go_num,by rw[d7.out];exact d5.out,S.out.trans d6.out⟩,by simp[intOf];omega⟩
  ·obtain rfl:i=L:=oO;obtain⟨A,c5,b3,b4⟩:=G.out.1.X;have C:wr.cell? ⟨u,0,none⟩=some (.slice A (iL i true i).length c5):=b3.cell 0 _ rfl;have d8:=Lib.hid b4;have d9:=Lib.hid G.out.1.B;clear b3 b4;go_wp2;go_ret;exact⟨_,rfl,(fN.bK d8.out).mono ch.out.size,aa ch.out d9.out⟩
theorem D8 (L:Nat) (w:World) (J:L<=32):Calls Tryz.prog 46 #[cn L false] w λe w'=>∃v,e= .returned v/\fN w.heap.size w' v (eX L false)/\Below w.heap.size w w':=by
 obtain⟨cy,c2,c6,c7,c8⟩:=info_parts rM;have M:=eV w L false;have c9:Hid (∀W,Calls Tryz.prog 92 #[cn L false] W λe w'=>∃hb x,e= .returned (.func (Fn.func 138) #[] #[.pointer (some ⟨hb,0,none⟩),.pointer (some ⟨x,0,none⟩)])/\(false=false->HC L w' hb x)/\Below W.heap.size W w'):=λW=>rm L false W J;have b5:Hid (∀W,Calls Tryz.prog 85 #[cn L false] W λe w'=>e= .returned (.int .i64 ((aJ L false:Nat):Int))/\Below W.heap.size W w'):=λW=>qo L false W J;have b6:Hid (∀W,Calls Tryz.prog 89 #[cn L false] W λe w'=>e= .returned (.int .i64 ((iT L false:Nat):Int))/\Below W.heap.size W w'):=λW=>ux L false W J;have X:Hid (L<=32):=J;have di:=Lib.hid (jH (c:=false) J);have dl:=Lib.hid (room_le (c:=false) J);obtain⟨bs,bt⟩:=di.out;have cx:=dl.out;obtain⟨N,b7⟩:∃N,N=aJ L false-1:=⟨_,rfl⟩;have co:((aJ L false:Nat):Int)-1=(N:Int):=oO;have ds:=Lib.hid b7;have ef:N<=141:=oO;obtain⟨R,G⟩:∃R,R=iT L false:=⟨_,rfl⟩;rw[<-G]at b6 cx;clear b7 G;obtain⟨B,hB⟩:∃B,B=aJ L false:=⟨_,rfl⟩;rw[<-hB]at b5 bs bt co;clear hB;obtain⟨al,P⟩:∃al,al=w.alloc (bL L false):=⟨_,rfl⟩;have dv:Hid (Below w.heap.size w al):=by show Below _ _ _;rw[P];exact ax _ _
 have Y:Hid (ae al w.heap.size #[.int .i64 L,.bool false] 60):=by show ae _ _ _ _;rw[P];exact ae.new _ _ _ _ oS
 rw[<-P]at M;obtain⟨D,F⟩:=M.out _ (Below.refl _ _);rw[P]at D F;have dx:∀(W:World) (a:Addr) (g:Fn) (b c:Array Value),(store a (.func g b c)).run Tryz.prog W=stored Tryz.prog W a (.func g b c) .plain:=λW a g b c=>run_store _ W a _ _ rfl;go_enter Tryz.func46,Tryz.ntmps46
 go_wp2_with(first
  |(go_at_call 92;refine(c9.out _).mono ?_;rintro e K ⟨hb,x,rfl,b8,bb⟩;rw[<-P]at bb;have z:=Lib.hid bb;have b9:=Lib.hid b8;clear bb b8 D F;obtain⟨D,F⟩:=M.out _ z.out;have a7:w.heap.size<K.heap.size:=ar (Y.out.below z.out))
  |(go_at_call 85;refine(b5.out _).mono ?_;rintro e O ⟨rfl,ca⟩;have C:=Lib.hid ca;clear ca D F;obtain⟨D,F⟩:=M.out _ (aa (ah z.out _) C.out);have c3:w.heap.size<O.heap.size:=ar (Y.out.below (aa (ah z.out _) C.out)))
  |(go_at_call 89;refine(b6.out _).mono ?_;rintro e f ⟨rfl,cb⟩;have H:=Lib.hid cb;clear cb D F;obtain⟨D,F⟩:=M.out _ (aa (ah (aa (ah z.out _) C.out) _) H.out);have s3:w.heap.size<f.heap.size:=ar (Y.out.below (aa (ah (aa (ah z.out _) C.out) _) H.out)))
  |(at_make;refine wpList_make_own _ rfl _ _ _ rfl f.heap.size 47 cy _ 2 Tryz.underlying40 c2 c6 c7 .i64 .i64 _ R rfl rfl (by first|rfl|omega) (by rw[c8];omega) oM (Nat.le_refl _) ?_;intro am cp hg;have dy:=Lib.hid cp;have a0:Hid (Below f.heap.size f am):=(Below.refl _ _).grown hg (Nat.le_refl _) (λq hq=>by cases hq);clear cp hg D F;obtain⟨D,F⟩:=M.out _ (aa (aa (ah (aa (ah z.out _) C.out) _) H.out) a0.out);have c4:w.heap.size<am.heap.size:=ar (Y.out.below (aa (aa (ah (aa (ah z.out _) C.out) _) H.out) a0.out))))
 obtain⟨y,Z⟩:∃y,y=am.alloc (.cells #[.slice (some ⟨f.heap.size,0,none⟩) 0 R] 40):=⟨_,rfl⟩;obtain⟨u,a1⟩:∃u,u=am.heap.size:=⟨_,rfl⟩;have Q:Hid (Below f.heap.size f y):=by show Below _ _ _;rw[Z];exact ah a0.out _
 obtain⟨p,bd⟩:∃p,p=K.heap.size:=⟨_,rfl⟩;obtain⟨lb,be⟩:∃lb,lb=O.heap.size:=⟨_,rfl⟩;have ce:ae (K.alloc (.cells #[.func (Fn.func 138) #[] #[.pointer (some ⟨hb,0,none⟩),.pointer (some ⟨x,0,none⟩)]] 77)) K.heap.size #[.func (Fn.func 138) #[] #[.pointer (some ⟨hb,0,none⟩),.pointer (some ⟨x,0,none⟩)]] 77:=ae.new _ _ _ _ oS;have cg:ae (O.alloc (.cells #[.int .i64 (N:Int)] 3)) O.heap.size #[.int .i64 (N:Int)] 3:=ae.new _ _ _ _ oS;have ab:Below O.heap.size O f:=cQ H.out;have d0:Hid (mf L false p lb hb x y):=by
  show mf _ _ _ _ _ _ _;refine⟨?_,?_,λe=>?_⟩
  ·rw[bd];exact((ce.below C.out).below ab).below Q.out
  ·rw[be,<-ds.out];exact(cg.below H.out).below Q.out
  ·have bv:Below K.heap.size K y:=aa (aa (cQ C.out) ab) Q.out;have bx:HC L K hb x:=by first|exact b9.out e|exact b9.out trivial|cases e
   exact⟨bx.1.below bv,bx.2.below bv⟩
 have ch:Hid (Below w.heap.size w f):=aa dv.out (aa z.out (aa (cQ C.out) ab));have bf:Hid (ae y w.heap.size #[.int .i64 L,.bool false] 60):=((((Y.out.below z.out).below (cQ C.out)).below ab)).below Q.out;have ci:Hid (BP f.heap.size f y u (iL L false 0)):=by
  show BP _ _ _ _ _;refine⟨Q.out,⟨some ⟨f.heap.size,0,none⟩,R,?_,?_⟩,?_,?_⟩
  ·show ae _ _ #[.slice (some ⟨f.heap.size,0,none⟩) 0 R] _;rw[Z,a1];exact ae.new _ _ _ _ oS
  ·show World.ownsRow _ _ _ _ (.slice (some ⟨f.heap.size,0,none⟩) 0 R) 0 [];rw[Z];exact ao dy.out (ax _ _)
  ·rw[a1];exact a0.out.size
  ·exact Q.out.size
 have ap:y.cell? ⟨w.heap.size,0,none⟩=some (.int .i64 L):=bf.out.cell 0 _ rfl;rw[<-Z,<-a1,<-bd,<-be];have S:Hid (aP y y):=aP.refl _;clear a7 c3 s3 c4 dx Z a1 bd be ce cg ab D F P co cx bs bt;go_wp2;clear ap;go_loopw [23] (λa8 wr=>∃i:Nat,i<=L/\a8= .int .i64 i/\Hid (BP f.heap.size f wr u (iL L false i)/\aP y wr)) (λa8 _=>L-(intOf a8).toNat)
 case atStart=>exact⟨0,Nat.zero_le _,rfl,ci.out,S.out⟩
 case round=>
  clear ci S;obtain⟨i,ec,rfl,G⟩:=hrel;by_cases d1:i<L
  ·obtain⟨d,bz⟩:∃d,d=L-i:=⟨_,rfl⟩;have d2:(L:Int)-(i:Int)=(d:Int):=oO;obtain⟨r,av⟩:∃r,r=rN L false i:=⟨_,rfl⟩;have a2:r<=140:=by rw[av];exact EL J
   have T:=Lib.hid av;have d3:4* (d:Int)+12=(r:Int):=by have a9:=J3 L false i;simp at a9;rw[av,a9,bz];omega
   have ed:d<=32:=oO;obtain⟨o,ac⟩:∃o,o=wr.alloc (.cells #[.int .i64 (i:Int)] 3):=⟨_,rfl⟩;obtain⟨t,U⟩:∃t,t=wr.heap.size:=⟨_,rfl⟩;have ck:Hid (Below wr.heap.size wr o):=by show Below _ _ _;rw[ac];exact ax _ _
   have ad:Hid (ae o t #[.int .i64 (i:Int)] 3):=by show ae _ _ _ _;rw[ac,U];exact ae.new _ _ _ _ oS
   have S:Hid (aP y o):=G.out.2.trans (aP.below ck.out);have d4:Hid (BP f.heap.size f o u (iL L false i++sL L false i 0)):=by show BP _ _ _ _ _;rw[show sL L false i 0=[]from rfl,List.append_nil];exact G.out.1.below ck.out
   have a3:Hid (mf L false p lb hb x o):=d0.out.dz S.out;have ap:o.cell? ⟨w.heap.size,0,none⟩=some (.int .i64 L):=(bf.out.iQ S.out rfl).cell 0 _ rfl;have V:o.cell? ⟨t,0,none⟩=some (.int .i64 (i:Int)):=ad.out.cell 0 _ rfl;have a4:=Lib.hid d1;have a7:w.heap.size<wr.heap.size:=ar (bf.out.iQ G.out.2 rfl);rw[ac]at ap V;rw[U]at V;clear bz av;have cq:Hid (∀W,aP o W->∀j k,j<r->k<2->Calls Tryz.prog 94 #[.int .i64 ((j:Nat):Int),.int .i64 ((k:Nat):Int),.pointer (some ⟨p,0,none⟩),.pointer (some ⟨t,0,none⟩)] W λe w'=>e= .returned (.agg #[.int .i64 (((eR L false i 0 j k).1:Nat):Int),.int .i64 (((eR L false i 0 j k).2:Nat):Int)])/\Below W.heap.size W w'):=by
    show∀W,_;intro W l j k m n;exact Dc L false p lb t hb x i j k W X.out a4.out (by rw[<-T.out];exact m) n (a3.out.dz l) (ad.out.iQ l rfl)
   have cr:Hid (∀W,aP o W->∀j k,j<r->k<2->Calls Tryz.prog 95 #[.int .i64 ((j:Nat):Int),.int .i64 ((k:Nat):Int),.pointer (some ⟨p,0,none⟩),.pointer (some ⟨t,0,none⟩),.pointer (some ⟨lb,0,none⟩)] W λe w'=>e= .returned (.agg #[.int .i64 (((eR L false i 1 j k).1:Nat):Int),.int .i64 (((eR L false i 1 j k).2:Nat):Int)])/\Below W.heap.size W w'):=by
    show∀W,_;intro W l j k m n;exact DP L false p lb t hb x i j k W X.out a4.out (by rw[<-T.out];exact m) n (a3.out.dz l) (ad.out.iQ l rfl)
   have cs:Hid (∀W,aP o W->∀j k,j<r->k<2->Calls Tryz.prog 96 #[.int .i64 ((j:Nat):Int),.int .i64 ((k:Nat):Int),.pointer (some ⟨p,0,none⟩),.pointer (some ⟨lb,0,none⟩),.pointer (some ⟨t,0,none⟩)] W λe w'=>e= .returned (.agg #[.int .i64 (((eR L false i 2 j k).1:Nat):Int),.int .i64 (((eR L false i 2 j k).2:Nat):Int)])/\Below W.heap.size W w'):=by
    show∀W,_;intro W l j k m n;exact DM L false p lb t hb x i j k W X.out a4.out (by rw[<-T.out];exact m) n (a3.out.dz l) (ad.out.iQ l rfl)
   have cv:Hid (∀W,aP o W->∀j k,j<r->k<2->Calls Tryz.prog 97 #[.int .i64 ((j:Nat):Int),.int .i64 ((k:Nat):Int),.pointer (some ⟨p,0,none⟩),.pointer (some ⟨lb,0,none⟩),.pointer (some ⟨t,0,none⟩)] W λe w'=>e= .returned (.agg #[.int .i64 (((eR L false i 3 j k).1:Nat):Int),.int .i64 (((eR L false i 3 j k).2:Nat):Int)])/\Below W.heap.size W w'):=by
    show∀W,_;intro W l j k m n;exact De L false p lb t hb x i j k W X.out a4.out (by rw[<-T.out];exact m) n (a3.out.dz l) (ad.out.iQ l rfl)
   have a5:Hid (∀s,s<=4->(iL L false i++sL L false i s).length<=60000):=by
    show∀s,_;intro s hs;rw[List.length_append,mN];have a9:=Er (c:=false) X.out i;have ea:s* (2* rN L false i)<=4* (2* 140):=Nat.mul_le_mul hs (by rw[<-T.out];omega);omega
   have a6:Hid (∀s,iL L false i++sL L false i (s+1)=iL L false i++sL L false i s++jL L false i s r):=by
    show∀s,_;intro s;rw[xh,<-T.out,List.append_assoc]
   rw[<-U]at V;rw[U]at V;go_wp2_with fail
   rw[<-ac,<-U];clear a7 ap V d3 d2 ac U;refine(jj f.heap.size f _ u (iL L false i++sL L false i 0) 94 #[.pointer (some ⟨p,0,none⟩),.pointer (some ⟨t,0,none⟩)] L i 0 r false d4.out (a5.out 0 oO) a2 (λargs W=>by go_simp) (λW l j m=>by rw[za];exact cq.out W (l) j 0 m oO) (λW l j m=>by rw[za];exact cq.out W (l) j 1 m oO)).mono ?_;rintro e v0 ⟨rfl,E,n⟩;have z:Hid (BP f.heap.size f v0 u (iL L false i++sL L false i 1)):=by show BP _ _ _ _ _;rw[a6.out 0];exact E
   have bi:Hid (aP o v0):=n;clear E n;go_wp2_with fail
   refine(jj f.heap.size f _ u (iL L false i++sL L false i 1) 95 #[.pointer (some ⟨p,0,none⟩),.pointer (some ⟨t,0,none⟩),.pointer (some ⟨lb,0,none⟩)] L i 1 r false z.out (a5.out 1 oO) a2 (λargs W=>by go_simp) (λW l j m=>by rw[kC];exact cr.out W ((bi.out.trans l)) j 0 m oO) (λW l j m=>by rw[kC];exact cr.out W ((bi.out.trans l)) j 1 m oO)).mono ?_;rintro e v1 ⟨rfl,E,n⟩;have C:Hid (BP f.heap.size f v1 u (iL L false i++sL L false i 2)):=by show BP _ _ _ _ _;rw[a6.out 1];exact E
   have bo:Hid (aP o v1):=bi.out.trans n;clear E n;go_wp2_with fail
   refine(jj f.heap.size f _ u (iL L false i++sL L false i 2) 96 #[.pointer (some ⟨p,0,none⟩),.pointer (some ⟨lb,0,none⟩),.pointer (some ⟨t,0,none⟩)] L i 2 r false C.out (a5.out 2 oO) a2 (λargs W=>by go_simp) (λW l j m=>by rw[kC];exact cs.out W ((bo.out.trans l)) j 0 m oO) (λW l j m=>by rw[kC];exact cs.out W ((bo.out.trans l)) j 1 m oO)).mono ?_;rintro e b1 ⟨rfl,E,n⟩;have H:Hid (BP f.heap.size f b1 u (iL L false i++sL L false i 3)):=by show BP _ _ _ _ _;rw[a6.out 2];exact E
   have bq:Hid (aP o b1):=bo.out.trans n;clear E n;go_wp2_with fail
   refine(jj f.heap.size f _ u (iL L false i++sL L false i 3) 97 #[.pointer (some ⟨p,0,none⟩),.pointer (some ⟨lb,0,none⟩),.pointer (some ⟨t,0,none⟩)] L i 3 r false H.out (a5.out 3 oO) a2 (λargs W=>by go_simp) (λW l j m=>by rw[kC];exact cv.out W ((bq.out.trans l)) j 0 m oO) (λW l j m=>by rw[kC];exact cv.out W ((bq.out.trans l)) j 1 m oO)).mono ?_;rintro e b2 ⟨rfl,E,n⟩;have d5:Hid (BP f.heap.size f b2 u (iL L false i++sL L false i 4)):=by show BP _ _ _ _ _;rw[a6.out 3];exact E
   have d6:Hid (aP o b2):=bq.out.trans n;clear E n;have d7:Hid (iL L false (i+1)=iL L false i++sL L false i 4):=sT L false i;go_wp2;exact⟨⟨i+1,by omega,by go_num,by rw[d7.out];exact d5.out,S.out.trans d6.out⟩,by simp[intOf];omega⟩
  ·obtain rfl:i=L:=oO;obtain⟨A,c5,b3,b4⟩:=G.out.1.X;have D:wr.cell? ⟨u,0,none⟩=some (.slice A (iL i false i).length c5):=b3.cell 0 _ rfl;have d8:=Lib.hid b4;have d9:=Lib.hid G.out.1.B;clear b3 b4;go_wp2;go_ret;exact⟨_,rfl,(fN.bK d8.out).mono ch.out.size,aa ch.out d9.out⟩
theorem AR (L:Nat) (c:Bool) (w:World) (a:L<=32):Calls Tryz.prog 46 #[cn L c] w λe w'=>∃v,e= .returned v/\fN w.heap.size w' v (eX L c)/\Below w.heap.size w w':=by
 cases c with
 |true=>exact GY L w a
 |false=>exact D8 L w a
end
end Go.Proofs.YtmnlkganmgcpbaaGreatDoor
