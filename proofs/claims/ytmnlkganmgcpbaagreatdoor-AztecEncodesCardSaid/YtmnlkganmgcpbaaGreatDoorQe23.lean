import Derived.Test.YtmnlkganmgcpbaaGreatDoorQe22
import Derived.Test.YtmnlkganmgcpbaaGreatDoorQe9
set_option maxRecDepth 100000
set_option maxHeartbeats 4000000
set_option linter.unusedVariables false
set_option linter.unusedSectionVars false
set_option linter.unusedSimpArgs false
namespace Go.Proofs.YtmnlkganmgcpbaaGreatDoor
section
open Go.RowKit
def aF (i:Nat):Nat×Bool:=if i<4 then(i+1,true)else(i-3,false)
def eE (a:Nat) (b:Bool) (p:Nat×Bool):Bool:=if a=0 then(p.2||(!b&&decide (4<=p.1)))else decide (p=(a,b))
theorem FT (a:Bool):om 0 a=((List.range 36).map aF).filter (eE 0 a):=by cases a<;>decide
theorem Dt:∀a,a<33->1<=a->∀b:Bool,(b=true->a<=4)->om a b=((List.range 36).map aF).filter (eE a b):=by decide
def eG (a:List Bool) (d b:Nat) (c:Bool) (i:Nat):Bool:=eE b c (aF i)&&dE a d (aF i)
theorem uo {c:List Bool} {d a:Nat} {b:Bool} (h:om a b=((List.range 36).map aF).filter (eE a b)):cA c d a b=((List.range 36).find? (eG c d a b)).map aF:=by
 unfold cA;rw[h,List.find?_filter,List.find?_map];congr 1;congr 1;funext i;simp[eG]
theorem Ak {c:List Bool} {d a:Nat} {b:Bool} {i:Nat} (h:om a b=((List.range 36).map aF).filter (eE a b)) (e:i<36) (f:∀j,j<i->eG c d a b j=false) (g:eG c d a b i=true):cA c d a b=some (aF i):=by
 rw[uo h,JA e f g];rfl
theorem wX {c:List Bool} {d a:Nat} {b:Bool} (h:om a b=((List.range 36).map aF).filter (eE a b)) (e:∀j,j<36->eG c d a b j=false):cA c d a b=none:=by
 rw[uo h];have:(List.range 36).find? (eG c d a b)=none:=by
  rw[List.find?_eq_none];intro i f;rw[e i (List.mem_range.1 f)];decide
 rw[this];rfl
theorem D0 (A:Option Addr) (n a:Nat) (l:List UInt8) (b:Int) (c:Bool) (d:Int) (w:World) (e:4096<n) (g:n<=9223372036854775807):
 Calls Tryz.prog 21 #[.slice A n a,.agg #[.int .i64 b,.bool c,.int .i64 d]] w (fO w l (none,4)):=by
 have f:(4096:Int)<(n:Int):=oO;go_enter Tryz.func21,Tryz.ntmps21;go_wp2;refine bodyPost_ret (v:= .tuple #[.agg aI,.int .i64 4]) (by simp[results,Tryz.results21,go_sem]) rfl ⟨.agg aI,rfl,rfl,?_⟩;exact ae (ar _ _) _
theorem Ed (A:Option Addr) (a:Nat) (l:List UInt8) (b:Int) (c:Bool) (d:Int) (w:World):
 Calls Tryz.prog 21 #[.slice A 0 a,.agg #[.int .i64 b,.bool c,.int .i64 d]] w (fO w l (none,5)):=by
 go_enter Tryz.func21,Tryz.ntmps21;go_wp2;refine bodyPost_ret (v:= .tuple #[.agg aI,.int .i64 5]) (by simp[results,Tryz.results21,go_sem]) rfl ⟨.agg aI,rfl,rfl,?_⟩;exact ae (ar _ _) _
theorem Bi (A:Option Addr) (n f:Nat) (l:List UInt8) (a:Int) (b:Bool) (g:Int) (w:World) (j:n<=4096) (k:1<=n) (m:¬a=0) (c:eB a b=false) (r:n<=9223372036854775807):
 Calls Tryz.prog 21 #[.slice A n f,.agg #[.int .i64 a,.bool b,.int .i64 g]] w (fO w l (none,14)):=by
 have o:¬(4096:Int)<(n:Int):=oO;have p:((n:Int)==0)=false:=by rw[beq_eq_false_iff_ne];omega
 have q:¬n=0:=oO;have i:Hid (∀W,Calls Tryz.prog 47 #[.int .i64 a,.bool b] W λe w'=>e= .returned (.bool false)/\w'=W):=λW=>by rw[<-c];exact lQ a b W
 clear c;go_enter Tryz.func21,Tryz.ntmps21;go_wp2_with(go_at_call 47;refine(i.out _).mono ?_;rintro e w1 ⟨rfl,d⟩;rw[d];clear d)
 refine bodyPost_ret (v:= .tuple #[.agg aI,.int .i64 14]) (by simp[results,Tryz.results21,go_sem]) rfl ⟨.agg aI,rfl,rfl,?_⟩;exact ae (ar _ _) _
theorem BL (A:Option Addr) (n g:Nat) (l:List UInt8) (a:Int) (b:Bool) (d:Int) (w:World) (j:n<=4096) (k:1<=n) (m:¬a=0) (c:eB a b=true) (o:d<5) (s:n<=9223372036854775807):
 Calls Tryz.prog 21 #[.slice A n g,.agg #[.int .i64 a,.bool b,.int .i64 d]] w (fO w l (none,3)):=by
 have p:¬(4096:Int)<(n:Int):=oO;have q:((n:Int)==0)=false:=by rw[beq_eq_false_iff_ne];omega
 have r:¬n=0:=oO;have i:Hid (∀W,Calls Tryz.prog 47 #[.int .i64 a,.bool b] W λe w'=>e= .returned (.bool true)/\w'=W):=λW=>by rw[<-c];exact lQ a b W
 clear c;go_enter Tryz.func21,Tryz.ntmps21;go_wp2_with(go_at_call 47;refine(i.out _).mono ?_;rintro e w1 ⟨rfl,f⟩;rw[f];clear f)
 refine bodyPost_ret (v:= .tuple #[.agg aI,.int .i64 3]) (by simp[results,Tryz.results21,go_sem]) rfl ⟨.agg aI,rfl,rfl,?_⟩;exact ae (ar _ _) _
theorem BK (A:Option Addr) (n g:Nat) (l:List UInt8) (a:Int) (b:Bool) (c:Int) (w:World) (j:n<=4096) (k:1<=n) (m:¬a=0) (d:eB a b=true) (o:¬c<5) (p:90<c) (t:n<=9223372036854775807):
 Calls Tryz.prog 21 #[.slice A n g,.agg #[.int .i64 a,.bool b,.int .i64 c]] w (fO w l (none,3)):=by
 have q:¬(4096:Int)<(n:Int):=oO;have r:((n:Int)==0)=false:=by rw[beq_eq_false_iff_ne];omega
 have s:¬n=0:=oO;have i:Hid (∀W,Calls Tryz.prog 47 #[.int .i64 a,.bool b] W λe w'=>e= .returned (.bool true)/\w'=W):=λW=>by rw[<-d];exact lQ a b W
 clear d;go_enter Tryz.func21,Tryz.ntmps21;go_wp2_with(go_at_call 47;refine(i.out _).mono ?_;rintro e w1 ⟨rfl,f⟩;rw[f];clear f)
 refine bodyPost_ret (v:= .tuple #[.agg aI,.int .i64 3]) (by simp[results,Tryz.results21,go_sem]) rfl ⟨.agg aI,rfl,rfl,?_⟩;exact ae (ar _ _) _
theorem Bh (A:Option Addr) (n b:Nat) (l:List UInt8) (c:Bool) (a:Int) (w:World) (d:n<=4096) (e:1<=n) (f:a<5) (k:n<=9223372036854775807):
 Calls Tryz.prog 21 #[.slice A n b,.agg #[.int .i64 0,.bool c,.int .i64 a]] w (fO w l (none,3)):=by
 have g:¬(4096:Int)<(n:Int):=oO;have i:((n:Int)==0)=false:=by rw[beq_eq_false_iff_ne];omega
 have j:¬n=0:=oO;go_enter Tryz.func21,Tryz.ntmps21;go_wp2;refine bodyPost_ret (v:= .tuple #[.agg aI,.int .i64 3]) (by simp[results,Tryz.results21,go_sem]) rfl ⟨.agg aI,rfl,rfl,?_⟩;exact ae (ar _ _) _
theorem Bj (A:Option Addr) (n b:Nat) (l:List UInt8) (c:Bool) (a:Int) (w:World) (d:n<=4096) (e:1<=n) (f:¬a<5) (g:90<a) (m:n<=9223372036854775807):
 Calls Tryz.prog 21 #[.slice A n b,.agg #[.int .i64 0,.bool c,.int .i64 a]] w (fO w l (none,3)):=by
 have i:¬(4096:Int)<(n:Int):=oO;have j:((n:Int)==0)=false:=by rw[beq_eq_false_iff_ne];omega
 have k:¬n=0:=oO;go_enter Tryz.func21,Tryz.ntmps21;go_wp2;refine bodyPost_ret (v:= .tuple #[.agg aI,.int .i64 3]) (by simp[results,Tryz.results21,go_sem]) rfl ⟨.agg aI,rfl,rfl,?_⟩;exact ae (ar _ _) _
theorem Au (A:Option Addr) (n a7:Nat) (l:List UInt8) (d:Bool) (a:Nat) (w:World) (cb:Nat->Nat->Nat) (b9:cj (bA l) cb) (hs:SR vU 0 w A n a7 l) (ex:n<=60) (n1:1<=n) (p1:5<=a) (p2:a<=90):
 Calls Tryz.prog 21 #[.slice A n a7,.agg #[.int .i64 0,.bool d,.int .i64 (a:Int)]] w λe w'=>∀R:Option (Nat×Bool)×Int,(∀p,cA (bz l) a 0 d=some p->R=(some p,0))->(cA (bz l) a 0 d=none->R=(none,16))->fO w l R e w':=by
 have dl:Hid ((∃C,cj (bA l) C)->(bz l).length<=501/\1<=(bz l).length/\∀L,aA (2^aq L) (az (bz l) (aq L))/\(az (bz l) (aq L)).length<=501/\1<=(az (bz l) (aq L)).length):=by
  show _->_;rintro⟨C,ce⟩;have Y:=mZ (l:=l) (by rw[<-hs.hn];omega) ce;rw[<-hs.hn]at Y;have cg:=qa (by rw[<-hs.hn];omega) (by rw[<-hs.hn];exact n1) ce;refine⟨by omega,cg,λL=>?_⟩;obtain⟨d1,ea,d2,ec⟩:=lE (l:=l) (by rw[<-hs.hn];omega) ce L rfl;refine⟨d1,by omega,?_⟩;rcases Nat.eq_zero_or_pos (az (bz l) (aq L)).length with ch|ch
  ·rw[ch]at d2;omega
  ·exact ch
 have ed:¬(4096:Int)<(n:Int):=oO;have ef:((n:Int)==0)=false:=by rw[beq_eq_false_iff_ne];omega
 have eh:¬n=0:=oO;have ej:¬(a:Int)<5:=oO;have ek:¬(90:Int)<(a:Int):=oO;have el:decide (a<5)=false:=by simp;omega
 have em:decide (90<a)=false:=by simp;omega
 have ey:n<=4096:=oO;have er:=Lib.hid hs;have co:Hid (∀W,af w W->Calls Tryz.prog 53 #[.slice A n a7] W (RT vB false W (bz l,0))):=λW s=>by
  rw[lh (by rw[<-hs.hn];omega) b9];exact sB A n a7 l W (hs.below s) oO cb b9
 have dm:=Lib.hid (FT d);obtain⟨c6,dn,cp⟩:=dl.out ⟨cb,b9⟩;obtain⟨b,V⟩:∃b,Hid (bz l=b):=⟨_,rfl⟩;rw[V.out]at c6 dn cp co;have ds:=Lib.hid cp;have d8:Hid (∀i,i<36->(∀j,j<i->eG b a 0 d j=false)->eG b a 0 d i=true->cA b a 0 d=some (aF i)):=λi=>Ak dm.out;have d4:Hid ((∀j,j<36->eG b a 0 d j=false)->cA b a 0 d=none):=wX dm.out;obtain⟨B,a4⟩:∃B,B=(w.alloc (.cells #[.int .i64 0,.bool d,.int .i64 (a:Int)] 24)).alloc (.cells aI 30):=⟨_,rfl⟩;have am:Hid (Below w.heap.size w B):=by show Below _ _ _;rw[a4];exact ae (ar _ _) _
 have cq:Hid (aa B w.heap.size #[.int .i64 0,.bool d,.int .i64 (a:Int)] 24):=by
  show aa _ _ _ _;rw[a4];have Y:aa (w.alloc (.cells #[.int .i64 0,.bool d,.int .i64 (a:Int)] 24)) w.heap.size #[.int .i64 0,.bool d,.int .i64 (a:Int)] 24:=aa.new _ _ _ _ rfl;exact Y.below (ar _ _)
 have d5:Hid (aa B (w.heap.size+1) aI 30):=by show aa _ _ _ _;rw[a4];exact aa.new _ _ _ _ oS
 have dx:Hid (w.heap.size<=w.heap.size+1/\w.heap.size+1<B.heap.size):=by show _/\_;rw[a4];simp
 have d0:Hid (∀W,af B W->W.cell? ⟨w.heap.size,0,none⟩=some (.int .i64 0)/\W.cell? ⟨w.heap.size,1,none⟩=some (.bool d)/\W.cell? ⟨w.heap.size,2,none⟩=some (.int .i64 (a:Int))):=λW s=>⟨(cq.out.below s).cell 0 _ rfl,(cq.out.below s).cell 1 _ rfl,(cq.out.below s).cell 2 _ rfl⟩;have cr:Hid (∀W,af B W->aa W (w.heap.size+1) aI 30):=λW s=>d5.out.below s;have dy:Hid (Calls Tryz.prog 53 #[.slice A n a7] ((w.alloc (.cells #[.int .i64 0,.bool d,.int .i64 (a:Int)] 24)).alloc (.cells aI 30)) λe w2=>∃P D Q,e= .returned (.tuple #[.slice P D Q,.int .i64 0])/\Hid (SR vB false w2 P D Q b)/\Hid (Below B.heap.size B w2)):=by
  show Calls _ _ _ _ _;rw[<-a4];refine(co.out B am.out).mono ?_;rintro e w2 ⟨v,rfl,h,hb⟩;obtain⟨P,D,Q,rfl,c8⟩:=h.parts;exact⟨P,D,Q,rfl,c8,hb⟩
 clear cp a4 hs b9 dl co;go_enter Tryz.func21,Tryz.ntmps21;go_wp2_with(go_at_call 53;refine dy.out.mono ?_;rintro e w2 ⟨P,D,Q,rfl,cs,S⟩)
 have bv:Hid (∀W,af w2 W->W.cell? ⟨w.heap.size,0,none⟩=some (.int .i64 0)/\W.cell? ⟨w.heap.size,1,none⟩=some (.bool d)/\W.cell? ⟨w.heap.size,2,none⟩=some (.int .i64 (a:Int))):=λW s=>d0.out W (ab S.out s);have d6:Hid (D=b.length):=cs.out.hn;have c8:D<=501:=by rw[d6.out];exact c6
 clear dn c6 dy d0;go_loopw [8] (λci wr=>∃k:Nat,1<=k/\k<=37/\ci= .int .i64 k/\Hid (∀j,j+1<k->eG b a 0 d j=false)/\Hid (af w2 wr)) (λci _=>38-(intOf ci).toNat)
 case atStart=>exact⟨1,by omega,by omega,rfl,λj h=>absurd h oO,Below.refl _ _⟩
 case round=>
  obtain⟨k,es,et,rfl,ck,hB⟩:=hrel;obtain⟨K,M,O⟩:=bv.out wr hB.out;by_cases eu:k<=36
  ·obtain⟨i,a8⟩:∃i,i+1=k:=⟨k-1,by omega⟩;have X:Hid (eG b a 0 d i=false->∀j,j+1<k+1->eG b a 0 d j=false):=by
    show _->_;intro h j c9;rcases Nat.lt_or_ge j i with Y|Y
    ·exact ck.out j oO
    ·obtain rfl:j=i:=oO;exact h
   have a5:Hid (eG b a 0 d i=true->cA b a 0 d=some (aF i)):=λh=>d8.out i oO (λj c9=>ck.out j oO) h;have ca:i<=35:=oO;by_cases b7:i<4
   ·have G:aF i=(k,true):=by unfold aF;rw[if_pos oO,a8]
    have H:eE 0 d (aF i)=true:=by rw[G];rfl
    have d7:k<=4:=oO;have c7:(k:Int)<=4:=oO;have d9:decide ((k:Int)<=4)=true:=decide_eq_true c7;have E:1<=k:=oO;have F:k<=32:=oO;have Z:true=true->k<=4:=λ_=>by omega
    clear b7 a8 ca;have ap:eG b a 0 d i=dE b a (k,true):=by unfold eG;rw[H,Bool.true_and,G]
    obtain⟨bx,cv,T⟩:=ds.out k;have U:Hid (∀W,af w2 W->Calls Tryz.prog 54 #[.slice P D Q,.int .i64 (k:Nat),.bool true,.int .i64 (a:Nat)] W λe w'=>∃t o u,e= .returned (.tuple #[.slice t o u,.bool (dE b a (k,true))])/\Hid (SR vN 0 w' t o u (az b (aq k)))/\Below W.heap.size W w'):=λW s=>by
     refine(od k true a P D Q b W E F Z oO oO (cs.out.below s)).mono ?_;rintro e w' ⟨v,rfl,h,hb⟩;obtain⟨t,o,u,rfl,ac⟩:=h.parts;exact⟨t,o,u,rfl,ac,hb⟩
    have av:Hid (dE b a (k,true)=true->∀W A m c',SR vN 0 W A m c' (az b (aq k))->Calls Tryz.prog 55 #[.slice A m c',.int .i64 (k:Nat),.bool true] W λe w'=>∃g cap N,N=ao k true* ao k true/\e= .returned (.agg #[.int .i64 (k:Nat),.bool true,.int .i64 (m:Int),.int .i64 ((ao k true:Nat):Int),.int .i64 ((ao k true:Nat):Int),.slice (some ⟨g,0,none⟩) N cap])/\SR vB false w' (some ⟨g,0,none⟩) N cap (fw k true (az b (aq k)))/\W.heap.size<=g/\Below W.heap.size W w'):=λh W A m c' ac=>
     nX k true _ A m c' W E F Z bx T (fW h E F T).1 (fW h E F T).2 ac
    have a0:Hid (dE b a (k,true)=true->cA b a 0 d=some (k,true)):=by show _->_;intro h;rw[<-G];exact a5.out (by rw[ap];exact h)
    have a1:Hid (dE b a (k,true)=false->∀j,j+1<k+1->eG b a 0 d j=false):=by show _->_;intro h;exact X.out (by rw[ap];exact h)
    have cx:Hid (∀W A m c',SR vN 0 W A m c' (az b (aq k))->m=(az b (aq k)).length):=λW A m c' h=>h.hn;clear ap H bx cv T E F Z;cases r:dE b a (k,true)with
    |true=>
     have c2:=Lib.hid (av.out r);have x:=Lib.hid (a0.out r);rw[r]at U;clear av a0 a1 a5 X r
     go_wp2_with(first
      |(go_at_call 54;refine(U.out _ hB.out).mono ?_;rintro e ad ⟨t,o,u,rfl,a2,J⟩;have y:Hid (af w2 ad):=ab hB.out J;clear J K M O;obtain⟨K,M,O⟩:=bv.out _ y.out)
      |(go_at_call 55;refine(c2.out _ _ _ _ a2.out).mono ?_;rintro e q ⟨g,cap,N,b1,rfl,b2,b3,b4⟩;have c3:=Lib.hid b1;have c4:=Lib.hid b2;have c5:=Lib.hid b3;have b5:Hid (af w2 q):=ab y.out b4;have c:=Lib.hid (cr.out _ (ab S.out b5.out));clear b1 b2 b3 b4 K M O;have c0:=c.out.cell 0 _ rfl;have c1:=c.out.cell 1 _ rfl;have a9:=c.out.cell 2 _ rfl;have bb:=c.out.cell 3 _ rfl;have bd:=c.out.cell 4 _ rfl;have be:=c.out.cell 5 _ rfl;have bf:q.frozen? ⟨w.heap.size+1,0,none⟩=false:=frozen_of_row _ _ _ _ _ c.out;have bi:q.frozen? ⟨w.heap.size+1,1,none⟩=false:=frozen_of_row _ _ _ _ _ c.out;have bo:q.frozen? ⟨w.heap.size+1,2,none⟩=false:=frozen_of_row _ _ _ _ _ c.out;have bq:q.frozen? ⟨w.heap.size+1,3,none⟩=false:=frozen_of_row _ _ _ _ _ c.out;have bs:q.frozen? ⟨w.heap.size+1,4,none⟩=false:=frozen_of_row _ _ _ _ _ c.out;have bt:q.frozen? ⟨w.heap.size+1,5,none⟩=false:=frozen_of_row _ _ _ _ _ c.out))
     refine bodyPost_ret (v:= .tuple #[.agg #[.int .i64 (k:Nat),.bool true,.int .i64 (o:Int),.int .i64 ((ao k true:Nat):Int),.int .i64 ((ao k true:Nat):Int),.slice (some ⟨g,0,none⟩) N cap],.int .i64 0]) (by simp[results,Tryz.results21,go_sem,c0,c1,a9,bb,bd,be,bf,bi,bo,bq,bs,bt]) rfl (λR a3 a6=>?_);rw[V.out]at a3 a6;obtain rfl:=a3 _ x.out;have z:∀al:Addr,some (⟨g,0,none⟩:Addr)=some al->al.block≠w.heap.size+1:=λal e=>by
      have Y:=c5.out;have cg:=(ab S.out y.out).size;have d3:=dx.out.2;injection e with e1;subst e1;show g≠_;omega
     have f:w.heap.size<=w.heap.size+1:=oO;refine⟨_,rfl,⟨some ⟨g,0,none⟩,N,cap,c3.out,?_,?_⟩,?_⟩
     ·rw[V.out,cx.out _ _ _ _ a2.out]
     ·rw[V.out];exact((((((c4.out.dX (au.cY _) z).dX (au.cY _) z).dX (au.cY _) z).dX (au.cY _) z).dX (au.cY _) z).dX (au.cY _) z)
     ·have b6:=am.out.trans ((ab S.out b5.out).mono am.out.size);exact(((((b6.setCell f _).setCell f _).setCell f _).setCell f _).setCell f _).setCell f _
    |false=>
     have x:=Lib.hid (a1.out r);rw[r]at U;clear av a0 a1 a5 X r;go_wp2_with(go_at_call 54;refine(U.out _ hB.out).mono ?_;rintro e ad ⟨t,o,u,rfl,a2,J⟩;have y:Hid (af w2 ad):=ab hB.out J;clear J K M O;obtain⟨K,M,O⟩:=bv.out _ y.out)
     exact⟨⟨k+1,by omega,by omega,by go_num,x.out,y.out⟩,by simp[intOf];omega⟩
   ·obtain⟨L,b8⟩:∃L,L=i-3:=⟨_,rfl⟩;have G:aF i=(L,false):=by unfold aF;rw[if_neg oO,b8]
    have d7:¬k<=4:=oO;have c7:¬(k:Int)<=4:=oO;have d9:decide ((k:Int)<=4)=false:=decide_eq_false c7;have en:(k:Int)-4=(L:Int):=oO;cases d with
    |true=>
     have H:eE 0 true (aF i)=false:=by rw[G];rfl
     clear b7 b8 G a8 ca;have x:=Lib.hid (X.out (by unfold eG;rw[H,Bool.false_and]));clear H;go_wp2;exact⟨⟨k+1,by omega,by omega,by go_num,x.out,hB.out⟩,by simp[intOf];omega⟩
    |false=>
     by_cases eq:L<4
     ·have H:eE 0 false (aF i)=false:=by rw[G];unfold eE;simp;omega
      clear b7 b8 G a8 ca;have x:=Lib.hid (X.out (by unfold eG;rw[H,Bool.false_and]));clear H;go_wp2;exact⟨⟨k+1,by omega,by omega,by go_num,x.out,hB.out⟩,by simp[intOf];omega⟩
     ·have H:eE 0 false (aF i)=true:=by rw[G];unfold eE;simp;omega
      have E:1<=L:=oO;have F:L<=32:=oO;have Z:false=true->L<=4:=λh=>by cases h
      clear b7 b8 a8 ca;have ap:eG b a 0 false i=dE b a (L,false):=by unfold eG;rw[H,Bool.true_and,G]
      obtain⟨bx,cv,T⟩:=ds.out L;have U:Hid (∀W,af w2 W->Calls Tryz.prog 54 #[.slice P D Q,.int .i64 (L:Nat),.bool false,.int .i64 (a:Nat)] W λe w'=>∃t o u,e= .returned (.tuple #[.slice t o u,.bool (dE b a (L,false))])/\Hid (SR vN 0 w' t o u (az b (aq L)))/\Below W.heap.size W w'):=λW s=>by
       refine(od L false a P D Q b W E F Z oO oO (cs.out.below s)).mono ?_;rintro e w' ⟨v,rfl,h,hb⟩;obtain⟨t,o,u,rfl,ac⟩:=h.parts;exact⟨t,o,u,rfl,ac,hb⟩
      have av:Hid (dE b a (L,false)=true->∀W A m c',SR vN 0 W A m c' (az b (aq L))->Calls Tryz.prog 55 #[.slice A m c',.int .i64 (L:Nat),.bool false] W λe w'=>∃g cap N,N=ao L false* ao L false/\e= .returned (.agg #[.int .i64 (L:Nat),.bool false,.int .i64 (m:Int),.int .i64 ((ao L false:Nat):Int),.int .i64 ((ao L false:Nat):Int),.slice (some ⟨g,0,none⟩) N cap])/\SR vB false w' (some ⟨g,0,none⟩) N cap (fw L false (az b (aq L)))/\W.heap.size<=g/\Below W.heap.size W w'):=λh W A m c' ac=>
       nX L false _ A m c' W E F Z bx T (fW h E F T).1 (fW h E F T).2 ac
      have a0:Hid (dE b a (L,false)=true->cA b a 0 false=some (L,false)):=by show _->_;intro h;rw[<-G];exact a5.out (by rw[ap];exact h)
      have a1:Hid (dE b a (L,false)=false->∀j,j+1<k+1->eG b a 0 false j=false):=by show _->_;intro h;exact X.out (by rw[ap];exact h)
      have cx:Hid (∀W A m c',SR vN 0 W A m c' (az b (aq L))->m=(az b (aq L)).length):=λW A m c' h=>h.hn;clear ap H bx cv T E F Z;cases r:dE b a (L,false)with
      |true=>
       have c2:=Lib.hid (av.out r);have x:=Lib.hid (a0.out r);rw[r]at U;clear av a0 a1 a5 X r
       go_wp2_with(first
        |(go_at_call 54;refine(U.out _ hB.out).mono ?_;rintro e ad ⟨t,o,u,rfl,a2,J⟩;have y:Hid (af w2 ad):=ab hB.out J;clear J K M O;obtain⟨K,M,O⟩:=bv.out _ y.out)
        |(go_at_call 55;refine(c2.out _ _ _ _ a2.out).mono ?_;rintro e q ⟨g,cap,N,b1,rfl,b2,b3,b4⟩;have c3:=Lib.hid b1;have c4:=Lib.hid b2;have c5:=Lib.hid b3;have b5:Hid (af w2 q):=ab y.out b4;have c:=Lib.hid (cr.out _ (ab S.out b5.out));clear b1 b2 b3 b4 K M O;have c0:=c.out.cell 0 _ rfl;have c1:=c.out.cell 1 _ rfl;have a9:=c.out.cell 2 _ rfl;have bb:=c.out.cell 3 _ rfl;have bd:=c.out.cell 4 _ rfl;have be:=c.out.cell 5 _ rfl;have bf:q.frozen? ⟨w.heap.size+1,0,none⟩=false:=frozen_of_row _ _ _ _ _ c.out;have bi:q.frozen? ⟨w.heap.size+1,1,none⟩=false:=frozen_of_row _ _ _ _ _ c.out;have bo:q.frozen? ⟨w.heap.size+1,2,none⟩=false:=frozen_of_row _ _ _ _ _ c.out;have bq:q.frozen? ⟨w.heap.size+1,3,none⟩=false:=frozen_of_row _ _ _ _ _ c.out;have bs:q.frozen? ⟨w.heap.size+1,4,none⟩=false:=frozen_of_row _ _ _ _ _ c.out;have bt:q.frozen? ⟨w.heap.size+1,5,none⟩=false:=frozen_of_row _ _ _ _ _ c.out))
       refine bodyPost_ret (v:= .tuple #[.agg #[.int .i64 (L:Nat),.bool false,.int .i64 (o:Int),.int .i64 ((ao L false:Nat):Int),.int .i64 ((ao L false:Nat):Int),.slice (some ⟨g,0,none⟩) N cap],.int .i64 0]) (by simp[results,Tryz.results21,go_sem,c0,c1,a9,bb,bd,be,bf,bi,bo,bq,bs,bt]) rfl (λR a3 a6=>?_);rw[V.out]at a3 a6;obtain rfl:=a3 _ x.out;have z:∀al:Addr,some (⟨g,0,none⟩:Addr)=some al->al.block≠w.heap.size+1:=λal e=>by
        have Y:=c5.out;have cg:=(ab S.out y.out).size;have d3:=dx.out.2;injection e with e1;subst e1;show g≠_;omega
       have f:w.heap.size<=w.heap.size+1:=oO;refine⟨_,rfl,⟨some ⟨g,0,none⟩,N,cap,c3.out,?_,?_⟩,?_⟩
       ·rw[V.out,cx.out _ _ _ _ a2.out]
       ·rw[V.out];exact((((((c4.out.dX (au.cY _) z).dX (au.cY _) z).dX (au.cY _) z).dX (au.cY _) z).dX (au.cY _) z).dX (au.cY _) z)
       ·have b6:=am.out.trans ((ab S.out b5.out).mono am.out.size);exact(((((b6.setCell f _).setCell f _).setCell f _).setCell f _).setCell f _).setCell f _
      |false=>
       have x:=Lib.hid (a1.out r);rw[r]at U;clear av a0 a1 a5 X r;go_wp2_with(go_at_call 54;refine(U.out _ hB.out).mono ?_;rintro e ad ⟨t,o,u,rfl,a2,J⟩;have y:Hid (af w2 ad):=ab hB.out J;clear J K M O;obtain⟨K,M,O⟩:=bv.out _ y.out)
       exact⟨⟨k+1,by omega,by omega,by go_num,x.out,y.out⟩,by simp[intOf];omega⟩
  ·have x:=Lib.hid (d4.out (λj c9=>ck.out j oO));have c:=Lib.hid (cr.out _ (ab S.out hB.out));have c0:=c.out.cell 0 _ rfl;have c1:=c.out.cell 1 _ rfl;have a9:=c.out.cell 2 _ rfl;have bb:=c.out.cell 3 _ rfl;have bd:=c.out.cell 4 _ rfl;have be:=c.out.cell 5 _ rfl;have bf:wr.frozen? ⟨w.heap.size+1,0,none⟩=false:=frozen_of_row _ _ _ _ _ c.out;have bi:wr.frozen? ⟨w.heap.size+1,1,none⟩=false:=frozen_of_row _ _ _ _ _ c.out;have bo:wr.frozen? ⟨w.heap.size+1,2,none⟩=false:=frozen_of_row _ _ _ _ _ c.out;have bq:wr.frozen? ⟨w.heap.size+1,3,none⟩=false:=frozen_of_row _ _ _ _ _ c.out;have bs:wr.frozen? ⟨w.heap.size+1,4,none⟩=false:=frozen_of_row _ _ _ _ _ c.out;have bt:wr.frozen? ⟨w.heap.size+1,5,none⟩=false:=frozen_of_row _ _ _ _ _ c.out;go_wp2;refine bodyPost_ret (v:= .tuple #[.agg aI,.int .i64 16]) (by simp[results,Tryz.results21,go_sem,c0,c1,a9,bb,bd,be,bf,bi,bo,bq,bs,bt]) rfl (λR a3 a6=>?_);rw[V.out]at a3 a6;obtain rfl:=a6 x.out;have f:w.heap.size<=w.heap.size+1:=oO;refine⟨.agg aI,rfl,rfl,?_⟩;have b6:=am.out.trans ((ab S.out hB.out).mono am.out.size);exact(((((b6.setCell f _).setCell f _).setCell f _).setCell f _).setCell f _).setCell f _
theorem xn (A:Option Addr) (n bd:Nat) (l:List UInt8) (f:Bool) (a:Nat) (ds:1<=a) (ed:a<=32) (dx:f=true->a<=4) (b:Nat) (w:World) (cb:Nat->Nat->Nat) (ca:cj (bA l) cb) (hs:SR vU 0 w A n bd l) (fo:n<=60) (n1:1<=n) (p1:5<=b) (p2:b<=90):
 Calls Tryz.prog 21 #[.slice A n bd,.agg #[.int .i64 (a:Int),.bool f,.int .i64 (b:Int)]] w λe w'=>∀R:Option (Nat×Bool)×Int,(∀p,cA (bz l) b a f=some p->R=(some p,0))->(cA (bz l) b a f=none->R=(none,16))->fO w l R e w':=by
 have dy:Hid ((∃C,cj (bA l) C)->(bz l).length<=501/\1<=(bz l).length/\∀L,aA (2^aq L) (az (bz l) (aq L))/\(az (bz l) (aq L)).length<=501/\1<=(az (bz l) (aq L)).length):=by
  show _->_;rintro⟨C,ce⟩;have ac:=mZ (l:=l) (by rw[<-hs.hn];omega) ce;rw[<-hs.hn]at ac;have cg:=qa (by rw[<-hs.hn];omega) (by rw[<-hs.hn];exact n1) ce;refine⟨by omega,cg,λL=>?_⟩;obtain⟨d9,en,ea,eq⟩:=lE (l:=l) (by rw[<-hs.hn];omega) ce L rfl;refine⟨d9,by omega,?_⟩;rcases Nat.eq_zero_or_pos (az (bz l) (aq L)).length with ch|ch
  ·rw[ch]at ea;omega
  ·exact ch
 have er:¬(4096:Int)<(n:Int):=oO;have es:((n:Int)==0)=false:=by rw[beq_eq_false_iff_ne];omega
 have et:¬n=0:=oO;have eu:¬(b:Int)<5:=oO;have ex:¬(90:Int)<(b:Int):=oO;have ey:decide (b<5)=false:=by simp;omega
 have ez:decide (90<b)=false:=by simp;omega
 have fr:n<=4096:=oO;have e9:=Lib.hid hs;have cp:Hid (∀W,af w W->Calls Tryz.prog 53 #[.slice A n bd] W (RT vB false W (bz l,0))):=λW B=>by
  rw[lh (by rw[<-hs.hn];omega) ca];exact sB A n bd l W (hs.below B) oO cb ca
 have d0:=Lib.hid (Dt a oO ds f dx);obtain⟨c7,d1,cq⟩:=dy.out ⟨cb,ca⟩;obtain⟨c,Z⟩:∃c,Hid (bz l=c):=⟨_,rfl⟩;rw[Z.out]at c7 d1 cq cp;have d2:=Lib.hid cq;have el:Hid (∀i,i<36->(∀j,j<i->eG c b a f j=false)->eG c b a f i=true->cA c b a f=some (aF i)):=λi=>Ak d0.out;have ef:Hid ((∀j,j<36->eG c b a f j=false)->cA c b a f=none):=wX d0.out;obtain⟨H,a8⟩:∃H,H=(w.alloc (.cells #[.int .i64 (a:Int),.bool f,.int .i64 (b:Int)] 24)).alloc (.cells aI 30):=⟨_,rfl⟩;have av:Hid (Below w.heap.size w H):=by show Below _ _ _;rw[a8];exact ae (ar _ _) _
 have cr:Hid (aa H w.heap.size #[.int .i64 (a:Int),.bool f,.int .i64 (b:Int)] 24):=by
  show aa _ _ _ _;rw[a8];have ac:aa (w.alloc (.cells #[.int .i64 (a:Int),.bool f,.int .i64 (b:Int)] 24)) w.heap.size #[.int .i64 (a:Int),.bool f,.int .i64 (b:Int)] 24:=aa.new _ _ _ _ rfl;exact ac.below (ar _ _)
 have eh:Hid (aa H (w.heap.size+1) aI 30):=by show aa _ _ _ _;rw[a8];exact aa.new _ _ _ _ oS
 have d3:Hid (w.heap.size<=w.heap.size+1/\w.heap.size+1<H.heap.size):=by show _/\_;rw[a8];simp
 have d7:Hid (∀W,af H W->W.cell? ⟨w.heap.size,0,none⟩=some (.int .i64 (a:Int))/\W.cell? ⟨w.heap.size,1,none⟩=some (.bool f)/\W.cell? ⟨w.heap.size,2,none⟩=some (.int .i64 (b:Int))):=λW B=>⟨(cr.out.below B).cell 0 _ rfl,(cr.out.below B).cell 1 _ rfl,(cr.out.below B).cell 2 _ rfl⟩;have cs:Hid (∀W,af H W->aa W (w.heap.size+1) aI 30):=λW B=>eh.out.below B;have d4:Hid (Calls Tryz.prog 53 #[.slice A n bd] ((w.alloc (.cells #[.int .i64 (a:Int),.bool f,.int .i64 (b:Int)] 24)).alloc (.cells aI 30)) λe w2=>∃T J U,e= .returned (.tuple #[.slice T J U,.int .i64 0])/\Hid (SR vB false w2 T J U c)/\Hid (Below H.heap.size H w2)):=by
  show Calls _ _ _ _ _;rw[<-a8];refine(cp.out H av.out).mono ?_;rintro e w2 ⟨v,rfl,h,hb⟩;obtain⟨T,J,U,rfl,c9⟩:=h.parts;exact⟨T,J,U,rfl,c9,hb⟩
 clear cq a8 hs ca dy cp;have ej:Hid (∀W,Calls Tryz.prog 47 #[.int .i64 (a:Int),.bool f] W λe w'=>e= .returned (.bool true)/\w'=W):=λW=>by rw[<-exB_of ds ed dx];exact lQ a f W
 have l0:((a:Int)==0)=false:=by rw[beq_eq_false_iff_ne];omega
 have a7:¬a=0:=oO;go_enter Tryz.func21,Tryz.ntmps21
 go_wp2_with(first
  |(go_at_call 47;refine(ej.out _).mono ?_;rintro e w1 ⟨rfl,d5⟩;rw[d5];clear d5)
  |(go_at_call 53;refine d4.out.mono ?_;rintro e w2 ⟨T,J,U,rfl,cv,V⟩))
 have b2:Hid (∀W,af w2 W->W.cell? ⟨w.heap.size,0,none⟩=some (.int .i64 (a:Int))/\W.cell? ⟨w.heap.size,1,none⟩=some (.bool f)/\W.cell? ⟨w.heap.size,2,none⟩=some (.int .i64 (b:Int))):=λW B=>d7.out W (ab V.out B);have ek:Hid (J=c.length):=cv.out.hn;have c9:J<=501:=by rw[ek.out];exact c7
 clear d1 c7 d4 d7;go_loopw [8] (λci wr=>∃k:Nat,1<=k/\k<=37/\ci= .int .i64 k/\Hid (∀j,j+1<k->eG c b a f j=false)/\Hid (af w2 wr)) (λci _=>38-(intOf ci).toNat)
 case atStart=>exact⟨1,by omega,by omega,rfl,λj h=>absurd h oO,Below.refl _ _⟩
 case round=>
  obtain⟨k,fb,fd,rfl,ck,hB⟩:=hrel;obtain⟨P,Q,S⟩:=b2.out wr hB.out;by_cases fn:k<=36
  ·obtain⟨i,co⟩:∃i,i+1=k:=⟨k-1,by omega⟩;have G:Hid (eG c b a f i=false->∀j,j+1<k+1->eG c b a f j=false):=by
    show _->_;intro h j dl;rcases Nat.lt_or_ge j i with ac|ac
    ·exact ck.out j oO
    ·obtain rfl:j=i:=oO;exact h
   have a9:Hid (eG c b a f i=true->cA c b a f=some (aF i)):=λh=>el.out i oO (λj dl=>ck.out j oO) h;have d8:i<=35:=oO;by_cases dm:i<4
   ·have u:aF i=(k,true):=by unfold aF;rw[if_pos oO,co]
    have d6:k<=4:=oO;have c8:(k:Int)<=4:=oO;have em:decide ((k:Int)<=4)=true:=decide_eq_true c8;clear dm co d8;cases f with
    |true=>
     by_cases t:k=a
     ·have o:eE a true (aF i)=true:=by rw[u];unfold eE;rw[if_neg a7,t];simp
      have K:1<=k:=oO;have M:k<=32:=oO;have ad:true=true->k<=4:=λ_=>d6;have q:((k:Int)==(a:Int))=true:=by rw[t];simp
      have a6:((k:Int)!=(a:Int))=false:=by rw[t];simp
      clear t;have a0:eG c b a true i=dE c b (k,true):=by unfold eG;rw[o,Bool.true_and,u]
      obtain⟨b3,cx,X⟩:=d2.out k;have Y:Hid (∀W,af w2 W->Calls Tryz.prog 54 #[.slice T J U,.int .i64 (k:Nat),.bool true,.int .i64 (b:Nat)] W λe w'=>∃D x E,e= .returned (.tuple #[.slice D x E,.bool (dE c b (k,true))])/\Hid (SR vN 0 w' D x E (az c (aq k)))/\Below W.heap.size W w'):=λW B=>by
       refine(od k true b T J U c W K M ad oO oO (cv.out.below B)).mono ?_;rintro e w' ⟨v,rfl,h,hb⟩;obtain⟨D,x,E,rfl,al⟩:=h.parts;exact⟨D,x,E,rfl,al,hb⟩
      have a1:Hid (dE c b (k,true)=true->∀W A m c',SR vN 0 W A m c' (az c (aq k))->Calls Tryz.prog 55 #[.slice A m c',.int .i64 (k:Nat),.bool true] W λe w'=>∃g cap N,N=ao k true* ao k true/\e= .returned (.agg #[.int .i64 (k:Nat),.bool true,.int .i64 (m:Int),.int .i64 ((ao k true:Nat):Int),.int .i64 ((ao k true:Nat):Int),.slice (some ⟨g,0,none⟩) N cap])/\SR vB false w' (some ⟨g,0,none⟩) N cap (fw k true (az c (aq k)))/\W.heap.size<=g/\Below W.heap.size W w'):=λh W A m c' al=>
       nX k true _ A m c' W K M ad b3 X (fW h K M X).1 (fW h K M X).2 al
      have a2:Hid (dE c b (k,true)=true->cA c b a true=some (k,true)):=by show _->_;intro h;rw[<-u];exact a9.out (by rw[a0];exact h)
      have a3:Hid (dE c b (k,true)=false->∀j,j+1<k+1->eG c b a true j=false):=by show _->_;intro h;exact G.out (by rw[a0];exact h)
      have c2:Hid (∀W A m c',SR vN 0 W A m c' (az c (aq k))->m=(az c (aq k)).length):=λW A m c' h=>h.hn;clear a0 o b3 cx X K M ad;cases z:dE c b (k,true)with
      |true=>
       have c3:=Lib.hid (a1.out z);have r:=Lib.hid (a2.out z);rw[z]at Y;clear a1 a2 a3 a9 G z
       go_wp2_with(first
        |(go_at_call 54;refine(Y.out _ hB.out).mono ?_;rintro e am ⟨D,x,E,rfl,a4,O⟩;have F:Hid (af w2 am):=ab hB.out O;clear O P Q S;obtain⟨P,Q,S⟩:=b2.out _ F.out)
        |(go_at_call 55;refine(c3.out _ _ _ _ a4.out).mono ?_;rintro e y ⟨g,cap,N,b4,rfl,b5,b6,b7⟩;have c4:=Lib.hid b4;have c5:=Lib.hid b5;have c6:=Lib.hid b6;have b8:Hid (af w2 y):=ab F.out b7;have d:=Lib.hid (cs.out _ (ab V.out b8.out));clear b4 b5 b6 b7 P Q S;have c0:=d.out.cell 0 _ rfl;have c1:=d.out.cell 1 _ rfl;have be:=d.out.cell 2 _ rfl;have bf:=d.out.cell 3 _ rfl;have bi:=d.out.cell 4 _ rfl;have bo:=d.out.cell 5 _ rfl;have bq:y.frozen? ⟨w.heap.size+1,0,none⟩=false:=frozen_of_row _ _ _ _ _ d.out;have bs:y.frozen? ⟨w.heap.size+1,1,none⟩=false:=frozen_of_row _ _ _ _ _ d.out;have bt:y.frozen? ⟨w.heap.size+1,2,none⟩=false:=frozen_of_row _ _ _ _ _ d.out;have bv:y.frozen? ⟨w.heap.size+1,3,none⟩=false:=frozen_of_row _ _ _ _ _ d.out;have bx:y.frozen? ⟨w.heap.size+1,4,none⟩=false:=frozen_of_row _ _ _ _ _ d.out;have b1:y.frozen? ⟨w.heap.size+1,5,none⟩=false:=frozen_of_row _ _ _ _ _ d.out))
       refine bodyPost_ret (v:= .tuple #[.agg #[.int .i64 (k:Nat),.bool true,.int .i64 (x:Int),.int .i64 ((ao k true:Nat):Int),.int .i64 ((ao k true:Nat):Int),.slice (some ⟨g,0,none⟩) N cap],.int .i64 0]) (by simp[results,Tryz.results21,go_sem,c0,c1,be,bf,bi,bo,bq,bs,bt,bv,bx,b1]) rfl (λR a5 bb=>?_);rw[Z.out]at a5 bb;obtain rfl:=a5 _ r.out;have q:∀ap:Addr,some (⟨g,0,none⟩:Addr)=some ap->ap.block≠w.heap.size+1:=λap e=>by
        have ac:=c6.out;have cg:=(ab V.out F.out).size;have ec:=d3.out.2;injection e with e1;subst e1;show g≠_;omega
       have s:w.heap.size<=w.heap.size+1:=oO;refine⟨_,rfl,⟨some ⟨g,0,none⟩,N,cap,c4.out,?_,?_⟩,?_⟩
       ·rw[Z.out,c2.out _ _ _ _ a4.out]
       ·rw[Z.out];exact((((((c5.out.dX (au.cY _) q).dX (au.cY _) q).dX (au.cY _) q).dX (au.cY _) q).dX (au.cY _) q).dX (au.cY _) q)
       ·have b9:=av.out.trans ((ab V.out b8.out).mono av.out.size);exact(((((b9.setCell s _).setCell s _).setCell s _).setCell s _).setCell s _).setCell s _
      |false=>
       have r:=Lib.hid (a3.out z);rw[z]at Y;clear a1 a2 a3 a9 G z;go_wp2_with(go_at_call 54;refine(Y.out _ hB.out).mono ?_;rintro e am ⟨D,x,E,rfl,a4,O⟩;have F:Hid (af w2 am):=ab hB.out O;clear O P Q S;obtain⟨P,Q,S⟩:=b2.out _ F.out)
       exact⟨⟨k+1,by omega,by omega,by go_num,r.out,F.out⟩,by simp[intOf];omega⟩
     ·have o:eE a true (aF i)=false:=by rw[u];unfold eE;rw[if_neg a7];simp;exact t
      have q:((k:Int)==(a:Int))=false:=by rw[beq_eq_false_iff_ne];omega
      have a6:((k:Int)!=(a:Int))=true:=by rw[bne_iff_ne];omega
      clear u;have r:=Lib.hid (G.out (by unfold eG;rw[o,Bool.false_and]));clear o;go_wp2;exact⟨⟨k+1,by omega,by omega,by go_num,r.out,hB.out⟩,by simp[intOf];omega⟩
    |false=>
     have o:eE a false (aF i)=false:=by rw[u];unfold eE;rw[if_neg a7];simp
     by_cases t:k=a
     ·have q:((k:Int)==(a:Int))=true:=by rw[t];simp
      have a6:((k:Int)!=(a:Int))=false:=by rw[t];simp
      clear u t;have r:=Lib.hid (G.out (by unfold eG;rw[o,Bool.false_and]));clear o;go_wp2;exact⟨⟨k+1,by omega,by omega,by go_num,r.out,hB.out⟩,by simp[intOf];omega⟩
     ·have q:((k:Int)==(a:Int))=false:=by rw[beq_eq_false_iff_ne];omega
      have a6:((k:Int)!=(a:Int))=true:=by rw[bne_iff_ne];omega
      clear u;have r:=Lib.hid (G.out (by unfold eG;rw[o,Bool.false_and]));clear o;go_wp2;exact⟨⟨k+1,by omega,by omega,by go_num,r.out,hB.out⟩,by simp[intOf];omega⟩
   ·obtain⟨L,dn⟩:∃L,L=i-3:=⟨_,rfl⟩;have u:aF i=(L,false):=by unfold aF;rw[if_neg oO,dn]
    have d6:¬k<=4:=oO;have c8:¬(k:Int)<=4:=oO;have em:decide ((k:Int)<=4)=false:=decide_eq_false c8;have e0:(k:Int)-4=(L:Int):=oO;have K:1<=L:=oO;have M:L<=32:=oO;clear dm dn co d8;cases f with
    |true=>
     have o:eE a true (aF i)=false:=by rw[u];unfold eE;rw[if_neg a7];simp
     by_cases t:L=a
     ·have q:((L:Int)==(a:Int))=true:=by rw[t];simp
      have a6:((L:Int)!=(a:Int))=false:=by rw[t];simp
      clear u t;have r:=Lib.hid (G.out (by unfold eG;rw[o,Bool.false_and]));clear o;go_wp2;exact⟨⟨k+1,by omega,by omega,by go_num,r.out,hB.out⟩,by simp[intOf];omega⟩
     ·have q:((L:Int)==(a:Int))=false:=by rw[beq_eq_false_iff_ne];omega
      have a6:((L:Int)!=(a:Int))=true:=by rw[bne_iff_ne];omega
      clear u;have r:=Lib.hid (G.out (by unfold eG;rw[o,Bool.false_and]));clear o;go_wp2;exact⟨⟨k+1,by omega,by omega,by go_num,r.out,hB.out⟩,by simp[intOf];omega⟩
    |false=>
     by_cases t:L=a
     ·have o:eE a false (aF i)=true:=by rw[u];unfold eE;rw[if_neg a7,t];simp
      have ad:false=true->L<=4:=λh=>by cases h
      have q:((L:Int)==(a:Int))=true:=by rw[t];simp
      have a6:((L:Int)!=(a:Int))=false:=by rw[t];simp
      clear t;have a0:eG c b a false i=dE c b (L,false):=by unfold eG;rw[o,Bool.true_and,u]
      obtain⟨b3,cx,X⟩:=d2.out L;have Y:Hid (∀W,af w2 W->Calls Tryz.prog 54 #[.slice T J U,.int .i64 (L:Nat),.bool false,.int .i64 (b:Nat)] W λe w'=>∃D x E,e= .returned (.tuple #[.slice D x E,.bool (dE c b (L,false))])/\Hid (SR vN 0 w' D x E (az c (aq L)))/\Below W.heap.size W w'):=λW B=>by
       refine(od L false b T J U c W K M ad oO oO (cv.out.below B)).mono ?_;rintro e w' ⟨v,rfl,h,hb⟩;obtain⟨D,x,E,rfl,al⟩:=h.parts;exact⟨D,x,E,rfl,al,hb⟩
      have a1:Hid (dE c b (L,false)=true->∀W A m c',SR vN 0 W A m c' (az c (aq L))->Calls Tryz.prog 55 #[.slice A m c',.int .i64 (L:Nat),.bool false] W λe w'=>∃g cap N,N=ao L false* ao L false/\e= .returned (.agg #[.int .i64 (L:Nat),.bool false,.int .i64 (m:Int),.int .i64 ((ao L false:Nat):Int),.int .i64 ((ao L false:Nat):Int),.slice (some ⟨g,0,none⟩) N cap])/\SR vB false w' (some ⟨g,0,none⟩) N cap (fw L false (az c (aq L)))/\W.heap.size<=g/\Below W.heap.size W w'):=λh W A m c' al=>
       nX L false _ A m c' W K M ad b3 X (fW h K M X).1 (fW h K M X).2 al
      have a2:Hid (dE c b (L,false)=true->cA c b a false=some (L,false)):=by show _->_;intro h;rw[<-u];exact a9.out (by rw[a0];exact h)
      have a3:Hid (dE c b (L,false)=false->∀j,j+1<k+1->eG c b a false j=false):=by show _->_;intro h;exact G.out (by rw[a0];exact h)
      have c2:Hid (∀W A m c',SR vN 0 W A m c' (az c (aq L))->m=(az c (aq L)).length):=λW A m c' h=>h.hn;clear a0 o b3 cx X K M ad;cases z:dE c b (L,false)with
      |true=>
       have c3:=Lib.hid (a1.out z);have r:=Lib.hid (a2.out z);rw[z]at Y;clear a1 a2 a3 a9 G z
       go_wp2_with(first
        |(go_at_call 54;refine(Y.out _ hB.out).mono ?_;rintro e am ⟨D,x,E,rfl,a4,O⟩;have F:Hid (af w2 am):=ab hB.out O;clear O P Q S;obtain⟨P,Q,S⟩:=b2.out _ F.out)
        |(go_at_call 55;refine(c3.out _ _ _ _ a4.out).mono ?_;rintro e y ⟨g,cap,N,b4,rfl,b5,b6,b7⟩;have c4:=Lib.hid b4;have c5:=Lib.hid b5;have c6:=Lib.hid b6;have b8:Hid (af w2 y):=ab F.out b7;have d:=Lib.hid (cs.out _ (ab V.out b8.out));clear b4 b5 b6 b7 P Q S;have c0:=d.out.cell 0 _ rfl;have c1:=d.out.cell 1 _ rfl;have be:=d.out.cell 2 _ rfl;have bf:=d.out.cell 3 _ rfl;have bi:=d.out.cell 4 _ rfl;have bo:=d.out.cell 5 _ rfl;have bq:y.frozen? ⟨w.heap.size+1,0,none⟩=false:=frozen_of_row _ _ _ _ _ d.out;have bs:y.frozen? ⟨w.heap.size+1,1,none⟩=false:=frozen_of_row _ _ _ _ _ d.out;have bt:y.frozen? ⟨w.heap.size+1,2,none⟩=false:=frozen_of_row _ _ _ _ _ d.out;have bv:y.frozen? ⟨w.heap.size+1,3,none⟩=false:=frozen_of_row _ _ _ _ _ d.out;have bx:y.frozen? ⟨w.heap.size+1,4,none⟩=false:=frozen_of_row _ _ _ _ _ d.out;have b1:y.frozen? ⟨w.heap.size+1,5,none⟩=false:=frozen_of_row _ _ _ _ _ d.out))
       refine bodyPost_ret (v:= .tuple #[.agg #[.int .i64 (L:Nat),.bool false,.int .i64 (x:Int),.int .i64 ((ao L false:Nat):Int),.int .i64 ((ao L false:Nat):Int),.slice (some ⟨g,0,none⟩) N cap],.int .i64 0]) (by simp[results,Tryz.results21,go_sem,c0,c1,be,bf,bi,bo,bq,bs,bt,bv,bx,b1]) rfl (λR a5 bb=>?_);rw[Z.out]at a5 bb;obtain rfl:=a5 _ r.out;have q:∀ap:Addr,some (⟨g,0,none⟩:Addr)=some ap->ap.block≠w.heap.size+1:=λap e=>by
        have ac:=c6.out;have cg:=(ab V.out F.out).size;have ec:=d3.out.2;injection e with e1;subst e1;show g≠_;omega
       have s:w.heap.size<=w.heap.size+1:=oO;refine⟨_,rfl,⟨some ⟨g,0,none⟩,N,cap,c4.out,?_,?_⟩,?_⟩
       ·rw[Z.out,c2.out _ _ _ _ a4.out]
       ·rw[Z.out];exact((((((c5.out.dX (au.cY _) q).dX (au.cY _) q).dX (au.cY _) q).dX (au.cY _) q).dX (au.cY _) q).dX (au.cY _) q)
       ·have b9:=av.out.trans ((ab V.out b8.out).mono av.out.size);exact(((((b9.setCell s _).setCell s _).setCell s _).setCell s _).setCell s _).setCell s _
      |false=>
       have r:=Lib.hid (a3.out z);rw[z]at Y;clear a1 a2 a3 a9 G z;go_wp2_with(go_at_call 54;refine(Y.out _ hB.out).mono ?_;rintro e am ⟨D,x,E,rfl,a4,O⟩;have F:Hid (af w2 am):=ab hB.out O;clear O P Q S;obtain⟨P,Q,S⟩:=b2.out _ F.out)
       exact⟨⟨k+1,by omega,by omega,by go_num,r.out,F.out⟩,by simp[intOf];omega⟩
     ·have o:eE a false (aF i)=false:=by rw[u];unfold eE;rw[if_neg a7];simp;exact t
      have q:((L:Int)==(a:Int))=false:=by rw[beq_eq_false_iff_ne];omega
      have a6:((L:Int)!=(a:Int))=true:=by rw[bne_iff_ne];omega
      clear u;have r:=Lib.hid (G.out (by unfold eG;rw[o,Bool.false_and]));clear o;go_wp2;exact⟨⟨k+1,by omega,by omega,by go_num,r.out,hB.out⟩,by simp[intOf];omega⟩
  ·have r:=Lib.hid (ef.out (λj dl=>ck.out j oO));have d:=Lib.hid (cs.out _ (ab V.out hB.out));have c0:=d.out.cell 0 _ rfl;have c1:=d.out.cell 1 _ rfl;have be:=d.out.cell 2 _ rfl;have bf:=d.out.cell 3 _ rfl;have bi:=d.out.cell 4 _ rfl;have bo:=d.out.cell 5 _ rfl;have bq:wr.frozen? ⟨w.heap.size+1,0,none⟩=false:=frozen_of_row _ _ _ _ _ d.out;have bs:wr.frozen? ⟨w.heap.size+1,1,none⟩=false:=frozen_of_row _ _ _ _ _ d.out;have bt:wr.frozen? ⟨w.heap.size+1,2,none⟩=false:=frozen_of_row _ _ _ _ _ d.out;have bv:wr.frozen? ⟨w.heap.size+1,3,none⟩=false:=frozen_of_row _ _ _ _ _ d.out;have bx:wr.frozen? ⟨w.heap.size+1,4,none⟩=false:=frozen_of_row _ _ _ _ _ d.out;have b1:wr.frozen? ⟨w.heap.size+1,5,none⟩=false:=frozen_of_row _ _ _ _ _ d.out;go_wp2;refine bodyPost_ret (v:= .tuple #[.agg aI,.int .i64 16]) (by simp[results,Tryz.results21,go_sem,c0,c1,be,bf,bi,bo,bq,bs,bt,bv,bx,b1]) rfl (λR a5 bb=>?_);rw[Z.out]at a5 bb;obtain rfl:=bb r.out;have s:w.heap.size<=w.heap.size+1:=oO;refine⟨.agg aI,rfl,rfl,?_⟩;have b9:=av.out.trans ((ab V.out hB.out).mono av.out.size);exact(((((b9.setCell s _).setCell s _).setCell s _).setCell s _).setCell s _).setCell s _
theorem yt (A:Option Addr) (n d:Nat) (l:List UInt8) (c:Int) (a:Bool) (b:Int) (w:World) (hs:SR vU 0 w A n d l) (hl:l.length<=60\/4096<l.length) (D:iG l.length c a b=0->∃C,cj (bA l) C):
 Calls Tryz.prog 21 #[.slice A n d,.agg #[.int .i64 c,.bool a,.int .i64 b]] w λe w'=>fO w l (gF l c a b) e w':=by
 have j:n<=9223372036854775807:=by have:=hs.hm;have:=hs.hc;unfold maxLen at*;omega
 have hn:n=l.length:=hs.hn;have m:iG l.length c a b=if 4096<l.length then 4 else if l.length=0 then 5 else if c≠0/\eB c a=false then 14 else if b<5\/90<b then 3 else 0:=rfl
 have x:∀k:Int,iG l.length c a b=k->k≠0->Calls Tryz.prog 21 #[.slice A n d,.agg #[.int .i64 c,.bool a,.int .i64 b]] w (fO w l (none,k))->Calls Tryz.prog 21 #[.slice A n d,.agg #[.int .i64 c,.bool a,.int .i64 b]] w λe w'=>fO w l (gF l c a b) e w':=by
  intro k E o F;refine F.mono λe w' h=>?_;unfold gF;rw[E,if_pos o];exact h
 by_cases r:4096<l.length
 ·exact x 4 (by rw[m,if_pos r]) oD (D0 A n d l c a b w oO j)
 by_cases v:l.length=0
 ·have:n=0:=oO;subst this;exact x 5 (by rw[m,if_neg r,if_pos v]) oD (Ed A d l c a b w)
 by_cases i:c≠0/\eB c a=false
 ·exact x 14 (by rw[m,if_neg r,if_neg v,if_pos i]) oD (Bi A n d l c a b w oO oO i.1 i.2 j)
 have s:c≠0->eB c a=true:=λh=>by
  cases s:eB c a with
  |true=>rfl
  |false=>exact absurd ⟨h,s⟩ i
 by_cases y:b<5\/90<b
 ·refine x 3 (by rw[m,if_neg r,if_neg v,if_neg i,if_pos y]) oD ?_;by_cases f:c=0
  ·subst f;by_cases t:b<5
   ·exact Bh A n d l a b w oO oO t j
   ·exact Bj A n d l a b w oO oO t oO j
  ·by_cases t:b<5
   ·exact BL A n d l c a b w oO oO f (s f) t j
   ·exact BK A n d l c a b w oO oO f (s f) t oO j
 have u:iG l.length c a b=0:=by rw[m,if_neg r,if_neg v,if_neg i,if_neg y]
 obtain⟨q,rfl⟩:∃q:Nat,b=q:=⟨b.toNat,by omega⟩;obtain⟨z,B⟩:=D u;by_cases f:c=0
 ·subst f;refine(Au A n d l a q w z B hs oO oO oO oO).mono ?_;rintro e w' o;refine o _ (λp g=>?_) (λg=>?_)
  ·unfold gF;rw[u,if_neg oD];show(match cA (bz l) q 0 a with|some p=>(some p,(0:Int))|none=>(none,16))=_;rw[g]
  ·unfold gF;rw[u,if_neg oD];show(match cA (bz l) q 0 a with|some p=>(some p,(0:Int))|none=>(none,16))=_;rw[g]
 ·obtain⟨k,rfl,G,H,J⟩:=mM (s f);refine(xn A n d l a k G H J q w z B hs oO oO oO oO).mono ?_;rintro e w' o;refine o _ (λp g=>?_) (λg=>?_)
  ·unfold gF;rw[u,if_neg oD];show(match cA (bz l) q k a with|some p=>(some p,(0:Int))|none=>(none,16))=_;rw[g]
  ·unfold gF;rw[u,if_neg oD];show(match cA (bz l) q k a with|some p=>(some p,(0:Int))|none=>(none,16))=_;rw[g]
theorem K8 (h:∃C,cj (bA [65]) C):gF [65] 0 false 33=(some (1,true),0)/\(az (bz [65]) (aq 1)).length=1:=by
 obtain⟨C,a⟩:=h;have b:(bz [65]).length=5:=by
  rw[lh oD a,qj oD a];exact K6 a
 obtain⟨e,e1,e2,e3,e4,e5,e6,e7⟩:=ma (bz [65]) 6 oO oO oO;have c:(az (bz [65]) 6).length=1:=by rw[b]at e4 e5;omega
 refine⟨?_,c⟩;have d:cA (bz [65]) 33 0 false=some (1,true):=by
  have f:dE (bz [65]) 33 (1,true)=true:=by
   unfold dE;show nG 1 true (az (bz [65]) 6).length _ 33=true;rw[c,b]
   decide
  show((1,true)::_:List (Nat×Bool)).find? _=_;rw[List.find?_cons,f]
 show(match cA (bz [65]) 33 0 false with|some p=>(some p,(0:Int))|none=>(none,16))=_;rw[d]
theorem Kp:(pR 1 true).length=104/\(qf 1 true).length=28/\(pR 1 true).getD 3 (0,0)=(1,1)/\(qf 1 true).getD 0 (0,0)=(4,2)/\rT 1 true=0:=⟨by kernel_rfl,by kernel_rfl,by kernel_rfl,by kernel_rfl,by kernel_rfl⟩
theorem q7 (w:World):Calls Tryz.prog 11 #[] w λe w'=>e= .returned (.bool true)/\Below w.heap.size w w':=by
 have U:Hid (∀W,Calls Tryz.prog 13 #[.int .i64 1,.bool true] W λe w'=>e= .returned (.tuple #[.int .i64 15,.int .i64 0])/\Below W.heap.size W w'):=λW=>sY 1 true W;have V:Hid (∀W,Calls Tryz.prog 13 #[.int .i64 5,.bool false] W λe w'=>e= .returned (.tuple #[.int .i64 37,.int .i64 0])/\Below W.heap.size W w'):=λW=>sY 5 false W;have X:Hid (∀W,Calls Tryz.prog 13 #[.int .i64 32,.bool false] W λe w'=>e= .returned (.tuple #[.int .i64 151,.int .i64 0])/\Below W.heap.size W w'):=λW=>sY 32 false W;have Y:Hid (∀W,Calls Tryz.prog 16 #[.int .i64 1,.bool true] W λe w'=>e= .returned (.tuple #[.int .i64 6,.int .i64 17,.int .i64 0])/\Below W.heap.size W w'):=λW=>qU 1 true W;have Z:Hid (∀W,Calls Tryz.prog 16 #[.int .i64 32,.bool false] W λe w'=>e= .returned (.tuple #[.int .i64 12,.int .i64 1664,.int .i64 0])/\Below W.heap.size W w'):=λW=>qU 32 false W;have F:Hid (∀W,Calls Tryz.prog 15 #[.int .i64 1,.bool true] W λe w'=>∃g b c a i c',e= .returned (.tuple #[.slice (some ⟨g,b,none⟩) 104 c,.slice (some ⟨a,i,none⟩) 28 c',.int .i64 0])/\Below W.heap.size W w'/\Hid (g<w'.heap.size/\a<w'.heap.size/\w'.cell? ⟨g,b+6,none⟩=some (.int .i64 1)/\w'.cell? ⟨g,b+7,none⟩=some (.int .i64 1)/\w'.cell? ⟨a,i,none⟩=some (.int .i64 4)/\w'.cell? ⟨a,i+1,none⟩=some (.int .i64 2))):=by
  show∀W,_;intro W;refine(Il 1 true W).mono ?_;rintro e w' ⟨v,u,rfl,⟨A,c,rfl,-,-,r⟩,⟨A',c',rfl,-,-,G⟩,hb⟩;obtain⟨p1,p2,H,J,K⟩:=Kp;obtain⟨g,b,rfl,hg,hc⟩:=r (by rw[p1];omega);obtain⟨a,i,rfl,ac,ad⟩:=G (by rw[p2];omega);have m:=hc 3 (by rw[p1];omega);have o:=ad 0 (by rw[p2];omega);rw[H]at m;rw[J]at o;refine⟨g,b,c,a,i,c',by rw[p1,p2,K],hb,hg,ac,m.1,m.2,?_,?_⟩
  ·have:=o.1;rw[Nat.zero_mul,Nat.add_zero]at this;exact this
  ·have:=o.2;rw[Nat.zero_mul,Nat.add_zero]at this;exact this
 have al:Hid (∀W:World,Calls Tryz.prog 12 #[.slice (some ⟨W.heap.size,0,none⟩) 1 1,.agg #[.int .i64 0,.bool false,.int .i64 33]] (W.alloc (.cells #[.int .u8 65] 5 (1,2))) λe w'=>∃A N k,e= .returned (.tuple #[.agg #[.int .i64 1,.bool true,.int .i64 1,.int .i64 15,.int .i64 15,.slice A N k],.int .i64 0])/\Below W.heap.size W w'):=by
  show∀W:World,_;intro W;have hs:SR vU 0 (W.alloc (.cells #[.int .u8 65] 5 (1,2))) (some ⟨W.heap.size,0,none⟩) 1 1 [65]:=SR.Lt (f:=vU) (d:=0) W [65] 5 (1,2) 1 rfl oM;refine(sD (some ⟨W.heap.size,0,none⟩) 1 1 [65] 0 false 33 _ hs (.inl oD)).mono ?_;rintro e w' ⟨r,v,rfl,s,hb⟩;obtain⟨L,M⟩:=K8 (r oD);rw[L]at s⊢;obtain⟨A,N,k,-,rfl,-⟩:=s;rw[M];exact⟨A,N,k,rfl,cN hb⟩
 have a4:=λ(w:World) (C:Array Value) (n c:Nat)=>Lib.run_convert_bytes_const (P:=Tryz.prog) w 22 5 C n c Tryz.underlying22 Tryz.underlying5;go_enter Tryz.func11,Tryz.ntmps11
 go_wp2_with(first
  |(go_at_call 13;(with_reducible show Calls _ _ #[.int .i64 1,_] _ _);refine(U.out _).mono ?_;rintro e w1 ⟨rfl,t⟩;have am:Hid (Below w.heap.size w w1):=t;clear t)
  |(go_at_call 13;(with_reducible show Calls _ _ #[.int .i64 5,_] _ _);refine(V.out _).mono ?_;rintro e w2 ⟨rfl,x⟩;have ap:Hid (Below w.heap.size w w2):=ab am.out x;clear x)
  |(go_at_call 13;(with_reducible show Calls _ _ #[.int .i64 32,_] _ _);refine(X.out _).mono ?_;rintro e O ⟨rfl,y⟩;have av:Hid (Below w.heap.size w O):=ab ap.out y;clear y)
  |(go_at_call 16;(with_reducible show Calls _ _ #[.int .i64 1,_] _ _);refine(Y.out _).mono ?_;rintro e Q ⟨rfl,z⟩;have a0:Hid (Below w.heap.size w Q):=ab av.out z;clear z)
  |(go_at_call 16;(with_reducible show Calls _ _ #[.int .i64 32,_] _ _);refine(Z.out _).mono ?_;rintro e S ⟨rfl,B⟩;have a1:Hid (Below w.heap.size w S):=ab a0.out B;clear B)
  |(go_at_call 15;refine(F.out _).mono ?_;rintro e q ⟨g,b,c,a,i,c',rfl,D,j⟩;have a2:Hid (Below w.heap.size w q):=ab a1.out D;clear D)
  |(go_at_call 12;refine(al.out q).mono ?_;rintro e T ⟨A,N,k,rfl,E⟩;have a3:=Lib.hid E;have l:Hid (Below q.heap.size q (T.alloc (.cells #[.int .i64 1,.bool true,.int .i64 1,.int .i64 15,.int .i64 15,.slice A N k] 30))):=ae a3.out _;have m:=(l.out.cell (p:=⟨g,b+6,none⟩) j.out.1).trans j.out.2.2.1;have o:=(l.out.cell (p:=⟨g,b+7,none⟩) j.out.1).trans j.out.2.2.2.1;have a5:=(l.out.cell (p:=⟨a,i,none⟩) j.out.2.1).trans j.out.2.2.2.2.1;have a6:=(l.out.cell (p:=⟨a,i+1,none⟩) j.out.2.1).trans j.out.2.2.2.2.2;clear E))
 go_ret;exact⟨rfl,ab a2.out l.out⟩
theorem J4 (v u:Value) (a b:List Pt) (w:World) (X:SP w v a) (hb:SP w u b):
 Calls Tryz.prog 20 #[v,u] w λe w'=>e= .returned (.bool (decide (a=b)))/\Below w.heap.size w w':=by
 obtain⟨A,c,rfl,M,ap,G⟩:=X;obtain⟨B,k,rfl,N,av,hB⟩:=hb;obtain⟨n,hn⟩:∃n,n=a.length:=⟨_,rfl⟩;obtain⟨m,r⟩:∃m,m=b.length:=⟨_,rfl⟩;rw[<-hn]at M⊢;rw[<-r]at N⊢;have o:=Lib.hid hn;have p:=Lib.hid r;have Y:=Lib.hid G;have Z:=Lib.hid hB;have a5:n<=9223372036854775807:=by unfold maxLen at*;omega
 clear G hB M ap N av hn r;by_cases O:n=m
 ·subst O;go_enter Tryz.func20,Tryz.ntmps20;go_wp2;go_loopw [5] (λs wr=>∃j:Nat,j<=n/\s= .int .i64 j/\Hid (af w wr)/\Hid (∀i,i<j->a.getD i (0,0)=b.getD i (0,0))) (λs _=>n-(intOf s).toNat)
  case atStart=>exact⟨0,Nat.zero_le _,rfl,Below.refl _ _,λi ac=>by omega⟩
  case round=>
   obtain⟨j,a3,rfl,f,H⟩:=hrel;by_cases P:j<n
   ·obtain⟨J,K,rfl,U,Q⟩:=Y.out (by rw[<-o.out];omega);obtain⟨L,ob,rfl,V,S⟩:=Z.out (by rw[<-p.out];omega);have t:=Q j (by rw[<-o.out];exact P);have z:=S j (by rw[<-p.out];exact P);have d:Hid (∀W,af wr W->(W.cell? ⟨J,K+j* 2,none⟩=some (.int .i64 ((a.getD j (0,0)).1:Int))/\W.cell? ⟨J,K+j* 2+1,none⟩=some (.int .i64 ((a.getD j (0,0)).2:Int)))/\(W.cell? ⟨L,ob+j* 2,none⟩=some (.int .i64 ((b.getD j (0,0)).1:Int))/\W.cell? ⟨L,ob+j* 2+1,none⟩=some (.int .i64 ((b.getD j (0,0)).2:Int)))):=by
     show∀W,_;intro W a0;have q:=ab f.out a0;exact⟨⟨(q.cell U).trans t.1,(q.cell U).trans t.2⟩,⟨(q.cell V).trans z.1,(q.cell V).trans z.2⟩⟩
    clear Q S t z;have C:Hid (a.getD j (0,0)≠b.getD j (0,0)->decide (a=b)=false):=by
     show _->_;intro h;rw[decide_eq_false_iff_not];intro e;rw[e]at h;exact h rfl
    have D:Hid (a.getD j (0,0)=b.getD j (0,0)->∀i,i<j+1->a.getD i (0,0)=b.getD i (0,0)):=by
     show _->_;intro h i ac;rcases Nat.lt_or_ge i j with g|g
     ·exact H.out i g
     ·obtain rfl:i=j:=oO;exact h
    generalize a.getD j (0,0)=x at*;generalize b.getD j (0,0)=y at*;have F:Hid (af wr wr.drew):=ak (Below.refl _ _);go_wp2;refine yO (af wr) [1,2,3,4,5,6,7,8,9] F.out ?_;refine zO d.out ?_;refine zO d.out ?_;refine zO d.out ?_;refine zO d.out ?_;refine zO d.out ?_;refine zO d.out ?_;refine zO d.out ?_;refine zO d.out ?_;by_cases l:x=y
    ·refine' eN (v:= .bool false) rfl (λW f=>?_) ?_
     ·have T:=d.out W f;simp only[l]at T;go_simp
     simp only[yQ,yU,yX,yY];refine ag ?_;have a1:=Lib.hid (D.out l);clear l C D;go_wp2;exact⟨⟨j+1,by omega,by go_num,ab f.out F.out,a1.out⟩,by simp[intOf];omega⟩
    ·refine' eN (v:= .bool true) rfl (λW f=>?_) ?_
     ·have T:=d.out W f;go_simp;have ad:¬((x.1:Int)=(y.1:Int)/\(x.2:Int)=(y.2:Int)):=λh=>l (Prod.ext oO oO);exactλg E=>ad ⟨g,E⟩
     simp only[yQ,yU,yX,yY];refine ag ?_;have a2:=Lib.hid (C.out l);clear l C D;go_wp2;go_ret;exact⟨by rw[a2.out];rfl,ab f.out F.out⟩
   ·obtain rfl:j=n:=oO;have al:Hid (decide (a=b)=true):=by
     show _=_;rw[decide_eq_true_eq];apply List.ext_getElem (by rw[<-o.out,<-p.out]);intro i g E;have:=H.out i (by rw[o.out];exact g);simpa[List.getD,g,E]using this
    go_wp2;go_ret;exact⟨by rw[al.out];rfl,f.out⟩
 ·have am:Hid (decide (a=b)=false):=by
   show _=_;rw[decide_eq_false_iff_not];intro e;apply O;rw[o.out,p.out,e]
  have a4:((n:Int)==m)=false:=by rw[beq_eq_false_iff_ne];omega
  go_enter Tryz.func20,Tryz.ntmps20;go_wp2;go_ret;exact⟨by rw[am.out];rfl,Below.refl _ _⟩
theorem zG (A:Option Addr) (n c:Nat) (a:List Bool) (B:Option Addr) (m k:Nat) (b:List Bool) (w:World) (d:SR vB false w A n c a) (hb:SR vB false w B m k b):
 Calls Tryz.prog 27 #[.slice A n c,.slice B m k] w λe w'=>e= .returned (.bool (decide (a=b)))/\Below w.heap.size w w':=by
 have f:Hid (n=a.length):=d.hn;have l:Hid (m=b.length):=hb.hn;have Y:n<=9223372036854775807:=by have:=d.hm;have:=d.hc;unfold maxLen at*;omega
 have F:=Lib.hid d.rd;have G:=Lib.hid hb.rd;clear d hb;by_cases z:n=m
 ·subst z;go_enter Tryz.func27,Tryz.ntmps27;go_wp2;go_loopw [5] (λr wr=>∃j:Nat,j<=n/\r= .int .i64 j/\Hid (af w wr)/\Hid (∀i,i<j->a.getD i false=b.getD i false)) (λr _=>n-(intOf r).toNat)
  case atStart=>exact⟨0,Nat.zero_le _,rfl,Below.refl _ _,λi H=>by omega⟩
  case round=>
   obtain⟨j,V,rfl,o,t⟩:=hrel;by_cases C:j<n
   ·obtain⟨J,rfl,T,D⟩:=F.out (by rw[<-f.out];omega);obtain⟨K,rfl,U,E⟩:=G.out (by rw[<-l.out];omega);have u:Hid (∀W,af wr W->W.cell? (J.add j)=some (.bool (a.getD j false))/\W.cell? (K.add j)=some (.bool (b.getD j false))):=by
     show∀W,_;intro W Q;have v:=ab o.out Q;exact⟨(v.cell (by rw[aV];exact T)).trans (D j (by rw[<-f.out];exact C)),(v.cell (by rw[aV];exact U)).trans (E j (by rw[<-l.out];exact C))⟩
    clear D E;have L:Hid (a.getD j false≠b.getD j false->decide (a=b)=false):=by
     show _->_;intro h;rw[decide_eq_false_iff_not];intro e;rw[e]at h;exact h rfl
    have M:Hid (a.getD j false=b.getD j false->∀i,i<j+1->a.getD i false=b.getD i false):=by
     show _->_;intro h i H;rcases Nat.lt_or_ge i j with g|g
     ·exact t.out i g
     ·obtain rfl:i=j:=oO;exact h
    generalize a.getD j false=x at*;generalize b.getD j false=y at*;have p:Hid (af wr wr.drew):=ak (Below.refl _ _);cases q:(x==y)with
    |true=>
     have s:Hid (x=y):=beq_iff_eq.1 q;have S:(x !=y)=false:=by rw[bne,q];rfl
     go_wp2;refine yO (af wr) [1,2,3,4,5,6,7,8,9] p.out ?_
     repeat refine zO u.out ?_
     refine ag ?_;go_wp2;exact⟨⟨j+1,by omega,by go_num,ab o.out p.out,M.out s.out⟩,by simp[intOf];omega⟩
    |false=>
     have s:Hid (x≠y):=beq_eq_false_iff_ne.1 q;have S:(x !=y)=true:=by rw[bne,q];rfl
     go_wp2;refine yO (af wr) [1,2,3,4,5,6,7,8,9] p.out ?_
     repeat refine zO u.out ?_
     refine ag ?_;go_wp2;go_ret;exact⟨by rw[L.out s.out];rfl,ab o.out p.out⟩
   ·obtain rfl:j=n:=oO;have N:Hid (decide (a=b)=true):=by
     show _=_;rw[decide_eq_true_eq];apply List.ext_getElem (by rw[<-f.out,<-l.out]);intro i g O;have:=t.out i (by rw[f.out];exact g);simpa[List.getD,g,O]using this
    go_wp2;go_ret;exact⟨by rw[N.out];rfl,o.out⟩
 ·have P:Hid (decide (a=b)=false):=by
   show _=_;rw[decide_eq_false_iff_not];intro e;apply z;rw[f.out,l.out,e]
  have X:((n:Int)==m)=false:=by rw[beq_eq_false_iff_ne];omega
  go_enter Tryz.func27,Tryz.ntmps27;go_wp2;go_ret;exact⟨by rw[P.out];rfl,Below.refl _ _⟩
theorem ER (W H:Int) (A:Option Addr) (N a:Nat) (B:Option Addr) (M b:Nat) (d:List Bool) (w:World) (c:SR vB false w A N a d) (hb:SR vB false w B M b d):
 Calls Tryz.prog 56 #[.agg #[.int .i64 W,.int .i64 H,.slice A N a],.agg #[.int .i64 W,.int .i64 H,.slice B M b]] w λe w'=>e= .returned (.bool true)/\Below w.heap.size w w':=by
 have j:Hid (∀V,af w V->Calls Tryz.prog 27 #[.slice A N a,.slice B M b] V λe w'=>e= .returned (.bool true)/\Below V.heap.size V w'):=λV f=>by
  have h:=zG A N a d B M b d V (c.below f) (hb.below f);rw[decide_eq_true rfl]at h;exact h
 have g:Hid (af w ((w.alloc (.cells #[.int .i64 W,.int .i64 H,.slice A N a] 28)).alloc (.cells #[.int .i64 W,.int .i64 H,.slice B M b] 28))):=ae (ar _ _) _;clear c hb;go_enter Tryz.func56,Tryz.ntmps56;go_wp2_with(go_at_call 27;refine(j.out _ g.out).mono ?_;rintro e w1 ⟨rfl,i⟩;have k:Hid (Below w.heap.size w w1):=ab g.out i;clear i)
 go_ret;exact⟨rfl,k.out⟩
theorem mG (L:Int) (c:Bool) (k W H:Int) (A:Option Addr) (N a:Nat) (B:Option Addr) (M b:Nat) (d:List Bool) (w:World) (f:SR vB false w A N a d) (hb:SR vB false w B M b d):
 Calls Tryz.prog 22 #[.agg #[.int .i64 L,.bool c,.int .i64 k,.int .i64 W,.int .i64 H,.slice A N a],.agg #[.int .i64 L,.bool c,.int .i64 k,.int .i64 W,.int .i64 H,.slice B M b]] w λe w'=>e= .returned (.bool true)/\Below w.heap.size w w':=by
 have l:Hid (∀V,af w V->Calls Tryz.prog 56 #[.agg #[.int .i64 W,.int .i64 H,.slice A N a],.agg #[.int .i64 W,.int .i64 H,.slice B M b]] V λe w'=>e= .returned (.bool true)/\Below V.heap.size V w'):=λV g=>ER W H A N a B M b d V (f.below g) (hb.below g);have i:Hid (af w ((w.alloc (.cells #[.int .i64 L,.bool c,.int .i64 k,.int .i64 W,.int .i64 H,.slice A N a] 30)).alloc (.cells #[.int .i64 L,.bool c,.int .i64 k,.int .i64 W,.int .i64 H,.slice B M b] 30))):=ae (ar _ _) _;clear f hb;go_enter Tryz.func22,Tryz.ntmps22;go_wp2_with(go_at_call 56;refine(l.out _ i.out).mono ?_;rintro e w1 ⟨rfl,j⟩;have m:Hid (Below w.heap.size w w1):=ab i.out j;clear j)
 go_ret;exact⟨rfl,m.out⟩
end
end Go.Proofs.YtmnlkganmgcpbaaGreatDoor
