/- For every input, the law AztecCorrects of layer 28 (aztec) answers true and leaves its arguments as they were, whatever the listed tables of Go's library hold when it begins: the row and its tied card. No condition beyond the listed tables. -/
import Derived.Test.YtmnlkganmgcpbaaGreatDoorQk22
import Derived.Test.YtmnlkganmgcpbaaGreatDoorQk23
import Derived.Test.YtmnlkganmgcpbaaGreatDoorCards
set_option maxRecDepth 100000
set_option maxHeartbeats 4000000
set_option linter.unusedVariables false
set_option linter.unusedSectionVars false
set_option linter.unusedSimpArgs false
namespace Go.Proofs.YtmnlkganmgcpbaaGreatDoor.aztecCorrects
section
open Go.RowKit
abbrev BX (a:Int) (b:Bool) (c:Int):Value:= .agg #[.int .i64 a,.bool b,.int .i64 c]
theorem CV {W:World} {b:Nat} {u v x y z a:Value} (h:ak W b [u,v,x,y,z,a]):W.cell? ⟨b,0,none⟩=some u/\W.cell? ⟨b,1,none⟩=some v/\W.cell? ⟨b,2,none⟩=some x/\W.cell? ⟨b,3,none⟩=some y/\W.cell? ⟨b,4,none⟩=some z/\W.cell? ⟨b,5,none⟩=some a:=⟨h.2 0 oS,h.2 1 oS,h.2 2 oS,h.2 3 oS,h.2 4 oS,h.2 5 oS⟩
def fF (w:World) (g:Nat) (l:List Bool):Prop:=∃a:Array Value,aa w g a 4/\l.length<=a.size/\∀i,i<l.length->a[i]?=some (.bool (l.getD i false))
theorem fF.cell {w:World} {g i:Nat} {l:List Bool} (h:fF w g l) (a:i<l.length):w.cell? ⟨g,i,none⟩=some (.bool (l.getD i false)):=by
 obtain⟨d,b,-,c⟩:=h;exact b.cell i _ (c i a)
theorem fF.frozen {w:World} {g:Nat} {l:List Bool} (h:fF w g l) (i:Nat):w.frozen? ⟨g,i,none⟩=false:=by
 obtain⟨b,a,-⟩:=h;exact frozen_of_row _ _ _ _ _ a
theorem fF.set {w:World} {g:Nat} {l:List Bool} (h:fF w g l) (i:Nat) (b:Bool):fF (w.setCell ⟨g,i,none⟩ (.bool b)) g (l.set i b):=by
 obtain⟨k,c,d,f⟩:=h;refine⟨k.setIfInBounds i (.bool b),c.eT _,by simpa using d,λj a=>?_⟩;rw[List.length_set]at a;by_cases e:i=j
 ·subst e;rw[nP _ a,Array.getElem?_setIfInBounds,if_pos rfl,if_pos oO]
 ·rw[getD_set_ne _ _ e,Array.getElem?_setIfInBounds_ne e];exact f j a
theorem fF.other {w:World} {g:Nat} {l:List Bool} (h:fF w g l) (p:Addr) (v:Value) (c:g≠p.block):fF (w.setCell p v) g l:=by
 obtain⟨d,a,b⟩:=h;exact⟨d,a.bP p v c,b⟩
theorem fF.below {w W:World} {g:Nat} {l:List Bool} (h:fF w g l) (hb:Below w.heap.size w W):fF W g l:=by
 obtain⟨c,a,b⟩:=h;exact⟨c,aa.below a hb,b⟩
theorem BK {w:World} {g b:Nat} {c1 d:Array Value} (c:aa w g c1 4) (a:aa w b d 28):g≠b:=by
 intro e;subst e;unfold aa at c a;rw[c]at a;injection a with a;injection a with _ e _;exact absurd e oD
theorem fF.setRow {w:World} {g b:Nat} {l:List Bool} {d:Array Value} (h:fF w g l) (e:aa w b d 28) (a:Array Value):fF (w.setRow b a) g l:=by
 obtain⟨i,c,f⟩:=h;exact⟨i,c.other a (BK c e),f⟩
theorem fF.lt {w:World} {g:Nat} {l:List Bool} (h:fF w g l):g<w.heap.size:=by
 obtain⟨b,a,-⟩:=h;exact ar a
theorem fF.sr {w:World} {db n c:Nat} {l:List Bool} (h:fF w db l) (hn:n=l.length) (hc:n<=c) (a:c<=maxLen):SR vB false w (some ⟨db,0,none⟩) n c l:=
 ⟨hn,hc,a,λ_=>⟨⟨db,0,none⟩,rfl,h.lt,λj b=>by rw[add_plain,Nat.zero_add];exact h.cell b⟩⟩
theorem fF.cd {W:World} {base n:Nat} {v:Value} {l:List Bool} (h:W.ownsRow base 4 1 v n (l.map vB)) (hn:n=l.length) (k:0<n):∃g cap,v= .slice (some ⟨g,0,none⟩) n cap/\base<=g/\n<=cap/\cap<=maxLen/\fF W g l:=by
 obtain⟨hl,⟨-,h⟩|⟨g,cap,b,e,hb,c,d,f,m,j⟩⟩:=h
 ·omega
 ·refine⟨g,cap,e,hb,d,f,b,c,by omega,λi a=>?_⟩;have e2:(b.toList.take (n* 1))[i]?=(l.map vB)[i]?:=by rw[j]
  rw[List.getElem?_take,if_pos oO,Array.getElem?_toList,List.getElem?_map,List.getElem?_eq_getElem a]at e2;rw[e2];simp[List.getD,a]
theorem Ly {W:World} {eb xb:Nat} {b:Array Value} (h:W.ownsRow eb 4 1 (.slice (some ⟨eb,0,none⟩) 0 0) 0 (([]:List Bool).map vB)) (c:aa W xb b 28):some xb≠(Value.slice (some ⟨eb,0,none⟩) 0 0).ownBlock:=by
 obtain⟨-,⟨h,-⟩|⟨g,cap,f,e,hb,d,-⟩⟩:=h
 ·cases h
 ·injection e with e _ _;injection e with e;injection e with e _ _;subst e;intro a;injection a with a;exact BK d c a.symm
theorem Fv (W:World):(W.alloc (.cells #[] 4)).ownsRow W.heap.size 4 1 (.slice (some ⟨W.heap.size,0,none⟩) 0 0) 0 (([]:List Bool).map vB):=
 ⟨rfl,.inr ⟨W.heap.size,0,#[],rfl,Nat.le_refl _,heap_alloc_new _ _,Nat.le_refl _,Nat.zero_le _,rfl,rfl⟩⟩
theorem Iw {b:Nat} {W:World} {v:Value} {nd:Nat} {a:List Bool} (h:W.ownsRow b 4 1 v (0+nd) (([]++a).map vB)):W.ownsRow b 4 1 v nd (a.map vB):=by
 rw[Nat.zero_add,List.nil_append]at h;exact h
theorem Dw {d:Array Oper} {S:World->Prop} {K:Act->World->Prop} {r:List (Bool×Nat×Oper)} {k:Nat} {c:Oper} {a:Act} {W:World} (n:Region.wanted c (yielded d a.tmps)=true) (p x:Operand) (e:c.op= .store 4 p x) (b i:Nat) (u v:Bool)
 (f:a.eval p= .pointer (some ⟨b,i,none⟩)) (g:a.eval x= .bool v) (hc:W.cell? ⟨b,i,none⟩=some (.bool u)) (j:W.frozen? ⟨b,i,none⟩=false)
 (l:S (W.setCell ⟨b,i,none⟩ (.bool v))) (m:bn Tryz.prog d S K r (a.put c.dst undef) (W.setCell ⟨b,i,none⟩ (.bool v))):bn Tryz.prog d S K ((true,k,c)::r) a W:=by
 refine .inl ⟨n,?_⟩;unfold execOp;simp only[e,f,g,Instr.storeAt,Instr.sureAddr,Sem.run_bind,Sem.run_pure,Result.andThen_ok];simp[go_sem,hc,j];exact⟨l,m⟩
def va (b:World) (xb db c sd N d:Nat) (e:List Pt) (dl a:List Bool) (W:World):Prop:=af b W/\fF W db (dM sd dl e a)/\bh W c a/\aa W xb (fk sd sd (some ⟨db,0,none⟩) N d) 28
theorem va.below {b:World} {xb db c sd N d:Nat} {f:List Pt} {dl a:List Bool} {W e:World} (h:va b xb db c sd N d f dl a W) (hb:Below W.heap.size W e):va b xb db c sd N d f dl a e:=⟨ae h.1 hb,h.2.1.below hb,h.2.2.1.below hb,aa.below h.2.2.2 hb⟩
theorem va.NI {c:World} {xb db d sd N a:Nat} {e:List Pt} {dl b:List Bool} {W:World} (h:va c xb db d sd N a e dl b W):W.cell? ⟨xb,0,none⟩=some (.int .i64 (sd:Int))/\W.cell? ⟨xb,1,none⟩=some (.int .i64 (sd:Int))/\W.cell? ⟨xb,2,none⟩=some (.slice (some ⟨db,0,none⟩) N a):=⟨h.2.2.2.cell 0 _ rfl,h.2.2.2.cell 1 _ rfl,h.2.2.2.cell 2 _ rfl⟩
def Fs (d:World) (b sd:Nat) (e:Option Addr) (N c1:Nat) (dl:List Bool) (a a':Act) (W:World):Prop:=∃xb db c eb,a'=(((((((((((((a.put (some 109) (.pointer (some ⟨b,3,none⟩))).put (some 110) (.pointer (some ⟨b,3,none⟩))).put (some 111) (.int .i64 sd)).put (some 112) (.pointer (some ⟨b,3,none⟩))).put (some 113) (.pointer (some ⟨b,4,none⟩))).put (some 114) (.int .i64 sd)).put (some 116) (.pointer (some ⟨b,3,none⟩))).put (some 117) (.pointer (some ⟨b,5,none⟩))).put (some 118) (.slice e N c1)).put (some 115) (.slice (some ⟨eb,0,none⟩) 0 0)).put (some 119) (.slice (some ⟨db,0,none⟩) N c)).put (some 120) (fq sd sd (some ⟨db,0,none⟩) N c)).put (some 15) (.pointer (some ⟨xb,0,none⟩)))/\aa W xb (fk sd sd (some ⟨db,0,none⟩) N c) 28/\af d W/\d.heap.size<=xb/\fF W db dl/\(d.heap.size<=db/\N<=c/\c<=maxLen)
theorem any_succ (a:List Bool) (b j:Nat):((List.range (j+1)).any λx=>a.getD (b+x) false)=(((List.range j).any λx=>a.getD (b+x) false)||a.getD (b+j) false):=by
 rw[List.range_succ,List.any_append];simp
theorem wH (A:Option Addr) (n i:Nat) (d:Int) (j:Bool) (o:Int) (k:Option Addr) (n2 l:Nat) (w:World) (r:n<=9223372036854775807) (s:n2<=9223372036854775807) (h:60<n\/(n<=60/\6<d)\/(n<=60/\¬6<d/\200<n2)):Calls Tryz.prog 4 #[.slice A n i,BX d j o,.slice k n2 l] w λe w'=>e= .returned (.bool true)/\Below w.heap.size w w':=by
 have f:Hid (∀W,Calls Tryz.prog 11 #[] W λe w'=>e= .returned (.bool true)/\Below W.heap.size W w'):=λW=>pd W;rcases h with h|⟨m,h⟩|⟨m,p,h⟩
 ·have g:(60:Int)<n:=oO;go_enter Tryz.func4,Tryz.ntmps4;go_wp2_with(go_at_call 11;refine(f.out _).mono ?_;rintro e b ⟨rfl,a⟩;have c:Hid (Below w.heap.size w b):=cH a;clear a)
  go_ret;exact⟨rfl,c.out⟩
 ·have g:¬(60:Int)<n:=oO;go_enter Tryz.func4,Tryz.ntmps4;go_wp2_with(go_at_call 11;refine(f.out _).mono ?_;rintro e b ⟨rfl,a⟩;have c:Hid (Below w.heap.size w b):=cH a;clear a)
  go_ret;exact⟨rfl,c.out⟩
 ·have g:¬(60:Int)<n:=oO;have q:(200:Int)<n2:=oO;go_enter Tryz.func4,Tryz.ntmps4;go_wp2_with(go_at_call 11;refine(f.out _).mono ?_;rintro e b ⟨rfl,a⟩;have c:Hid (Below w.heap.size w b):=cH a;clear a)
  go_ret;exact⟨rfl,c.out⟩
theorem JI (A:Option Addr) (n b:Nat) (a:Int) (c:Bool) (d k:Int) (i:Option Addr) (n2 j:Nat) (w:World) (x:n<=60) (s:¬6<a) (y:n2<=200) (t:¬k=0)
 (o:Hid (∀V,af w V->Calls Tryz.prog 12 #[.slice A n b,BX a c d] V λe w'=>e= .returned (.tuple #[.agg aY,.int .i64 k])/\Below V.heap.size V w')):
 Calls Tryz.prog 4 #[.slice A n b,BX a c d,.slice i n2 j] w λe w'=>e= .returned (.bool true)/\Below w.heap.size w w':=by
 have p:Hid (∀W,Calls Tryz.prog 11 #[] W λe w'=>e= .returned (.bool true)/\Below W.heap.size W w'):=λW=>pd W;have u:¬(60:Int)<n:=oO;have v:¬(200:Int)<n2:=oO;go_enter Tryz.func4,Tryz.ntmps4
 go_wp2_with(first
  |(go_at_call 12;refine(o.out _ (ax _ _)).mono ?_;rintro e l ⟨rfl,f⟩;have q:Hid (Below w.heap.size w l):=cH f;clear f;simp only[aY])
  |(go_at_call 11;refine(p.out _).mono ?_;rintro e m ⟨rfl,g⟩;have r:Hid (Below w.heap.size w m):=ae (ah q.out _) g;clear g))
 go_ret;exact⟨rfl,r.out⟩
theorem LP (A:Option Addr) (n bv:Nat) (l:List UInt8) (cb:Int) (ds:Bool) (d7:Int) (dv:Option Addr) (n2 dx:Nat) (X:List Nat) (L:Nat) (c:Bool) (D sd N nd z o:Nat) (dl:List Bool) (d:List Pt) (P:Prop) (w:World) (mo:n<=60) (k1:¬6<cb) (oj:n2<=200) (hs:SR vU 0 w A n bv l) (d8:SR vH 0 w dv n2 dx X) (d9:∀x∈X,x<=65535)
 (ea:N=dl.length) (a3:N=sd* sd) (bb:1<=sd) (ec:sd<=161) (ed:nd=d.length) (mp:nd<=20000) (ol:1<=nd) (ms:1<=z) (mt:z<=12) (g6:o* z<=nd) (m0:o<=4000) (f4:∀p∈d,p.1<sd/\p.2<sd)
 (g7:Hid (∀V,af w V->Calls Tryz.prog 12 #[.slice A n bv,BX cb ds d7] V λe w'=>∃G c1,e= .returned (.tuple #[.agg #[.int .i64 (L:Int),.bool c,.int .i64 D,.int .i64 (sd:Int),.int .i64 (sd:Int),.slice G N c1],.int .i64 0])/\SR vB false w' G N c1 dl/\Below V.heap.size V w'/\Hid P))
 (g8:Hid (∀V,Calls Tryz.prog 15 #[.int .i64 (L:Int),.bool c] V λe w'=>∃g H k v,e= .returned (.tuple #[.slice (some ⟨g,H,none⟩) nd k,v,.int .i64 0])/\Below V.heap.size V w'/\Hid (g<w'.heap.size/\∀j,j<nd->w'.cell? ⟨g,H+j* 2,none⟩=some (.int .i64 ((d.getD j (0,0)).1:Int))/\w'.cell? ⟨g,H+j* 2+1,none⟩=some (.int .i64 ((d.getD j (0,0)).2:Int)))))
 (g9:Hid (∀V,Calls Tryz.prog 16 #[.int .i64 (L:Int),.bool c] V λe w'=>e= .returned (.tuple #[.int .i64 (z:Int),.int .i64 (o:Int),.int .i64 0])/\Below V.heap.size V w'))
 (ef:Hid (∀a k,a.length=nd->k<nd->(dM sd dl d a).set (bu sd (d.getD k (0,0))) (!(dM sd dl d a).getD (bu sd (d.getD k (0,0))) false)=dM sd dl d (a.set k (!a.getD k false))))
 (eh:Hid (dM sd dl d (List.replicate nd false)=dl))
 (ib:Hid (P->D<o))
 (cp:Hid (P->∀a,a.length=nd->2* (jy a (nd-o* z) z o).length<=o-D->∀V A N a4,SR vB false V A N a4 (dM sd dl d a)->Calls Tryz.prog 14 #[fq sd sd A N a4] V (gO V (l,((jy a (nd-o* z) z o).length:Int),0)))):
 Calls Tryz.prog 4 #[.slice A n bv,BX cb ds d7,.slice dv n2 dx] w λe w'=>e= .returned (.bool true)/\Below w.heap.size w w':=by
 have ei:Hid (∀W,Calls Tryz.prog 11 #[] W λe w'=>e= .returned (.bool true)/\Below W.heap.size W w'):=λW=>pd W;have ge:=Lib.hid hs;have bd:=Lib.hid d8;have ek:=Lib.hid d9;have el:=Lib.hid f4;have bz:=Lib.hid ea;have ih:=Lib.hid a3;have ii:=Lib.hid ed;have m1:N<=25921:=by rw[a3];exact Nat.mul_le_mul ec ec
 have io:0<N:=by rw[a3];exact Nat.mul_pos bb bb
 have k2:(sd:Int)* (sd:Int)=(N:Int):=by rw[a3];simp
 obtain⟨J,b9⟩:∃x,x=o* z:=⟨_,rfl⟩;have m2:(o:Int)* (z:Int)=(J:Int):=by rw[b9];simp
 rw[<-b9]at g6 cp;obtain⟨off,f5⟩:∃x,x=nd-J:=⟨_,rfl⟩;have o0:off+J=nd:=oO;rw[<-f5]at cp;have ip:=Lib.hid b9;have ce:¬(60:Int)<n:=oO;have la:¬(200:Int)<n2:=oO;have lc:¬(nd:Int)<(J:Int):=oO;have li:¬(sd:Int)<1:=oO;have ll:¬(z:Int)<1:=oO;have lm:decide ((z:Int)<1)=false:=by simp;omega
 have ls:decide (z<1)=false:=by simp;omega
 have lv:decide ((sd:Int)<1)=false:=by simp;omega
 have lw:decide (sd<1)=false:=by simp;omega
 have lx:decide ((nd:Int)<(J:Int))=false:=by simp;omega
 have ly:decide (nd<J)=false:=by simp;omega
 have it:=λW=>re nd oO W;clear hs d8 d9 f4 ea a3 ed b9 f5;go_enter Tryz.func4,Tryz.ntmps4
 go_wp2_with(first
  |(go_at_call 12;refine(g7.out _ (ax _ _)).mono ?_;rintro e ad ⟨G,c1,rfl,bb,em,en⟩;have eq:Hid (Below w.heap.size w (ad.alloc (.cells #[.int .i64 (L:Int),.bool c,.int .i64 D,.int .i64 (sd:Int),.int .i64 (sd:Int),.slice G N c1] 30))):=ah (cH em) _;have er:Hid (ak (ad.alloc (.cells #[.int .i64 (L:Int),.bool c,.int .i64 D,.int .i64 (sd:Int),.int .i64 (sd:Int),.slice G N c1] 30)) ad.heap.size [.int .i64 (L:Int),.bool c,.int .i64 D,.int .i64 (sd:Int),.int .i64 (sd:Int),.slice G N c1]):=ak.new ad #[.int .i64 (L:Int),.bool c,.int .i64 D,.int .i64 (sd:Int),.int .i64 (sd:Int),.slice G N c1] _ _ rfl;have es:Hid (SR vB false (ad.alloc (.cells #[.int .i64 (L:Int),.bool c,.int .i64 D,.int .i64 (sd:Int),.int .i64 (sd:Int),.slice G N c1] 30)) G N c1 dl):=bb.below (ax _ _);clear em bb)
  |(go_at_call 15;refine(g8.out _).mono ?_;rintro e gg ⟨g,H,l0,l1,rfl,b1,be⟩;have et:Hid (Below w.heap.size w gg):=ae eq.out b1;have cq:=Lib.hid (er.out.below b1);have ew:=Lib.hid (es.out.below b1);obtain⟨gi,go,dy,gp,gq,gs⟩:=CV cq.out;clear b1)
  |(go_at_call 16;refine(g9.out _).mono ?_;rintro e f ⟨rfl,bf⟩;have b2:Hid (Below w.heap.size w f):=ae et.out bf;have cs:=Lib.hid (cq.out.below bf);have iv:=Lib.hid (ew.out.below bf);have dk:=Lib.hid bf;clear gi go dy gp gq gs;obtain⟨gt,gv,gw,gx,gy,gz⟩:=CV cs.out;clear bf))
 obtain⟨Y,cv⟩:∃b,b=ad.heap.size:=⟨_,rfl⟩;simp only[<-cv];rw[<-cv]at cs;have cx:Hid (af f f.drew):=ai (Below.refl _ _);have ex:Hid (∀W,af f W->W.cell? ⟨Y,0,none⟩=some (.int .i64 (L:Int))/\W.cell? ⟨Y,1,none⟩=some (.bool c)/\W.cell? ⟨Y,2,none⟩=some (.int .i64 D)/\W.cell? ⟨Y,3,none⟩=some (.int .i64 (sd:Int))/\W.cell? ⟨Y,4,none⟩=some (.int .i64 (sd:Int))/\W.cell? ⟨Y,5,none⟩=some (.slice G N c1)):=λW E=>CV (cs.out.below E);have cN:Hid (g<f.heap.size/\∀W,af f W->∀j,j<nd->W.cell? ⟨g,H+j* 2,none⟩=some (.int .i64 ((d.getD j (0,0)).1:Int))/\W.cell? ⟨g,H+j* 2+1,none⟩=some (.int .i64 ((d.getD j (0,0)).2:Int))):=by
  show _/\_;have ix:=dk.out.size;refine⟨Nat.lt_of_lt_of_le be.out.1 ix,λW E j dz=>?_⟩;have dE:=be.out.2 j dz;have ce:=ae dk.out E;exact⟨(ce.cell (p:=⟨g,H+j* 2,none⟩) be.out.1).trans dE.1,(ce.cell (p:=⟨g,H+j* 2+1,none⟩) be.out.1).trans dE.2⟩
 clear gt gv gw gx gy gz cv er cq es ew be dk eq et;obtain⟨wc,s⟩:∃W,W=f.drew:=⟨_,rfl⟩;have y:Hid (af f wc):=by show Below _ _ _;rw[s];exact cx.out
 refine ja (S:=af f) (.br [(false,0),(false,1),(false,2),(false,3),(false,4),(false,5),(false,7),(false,8),(false,9)] [6,12] (λk=>if k=6 then .br [] [10,12] (λk=>if k=10 then .last [(false,11),(true,12),(true,13)]else .last [(true,10),(false,11),(true,13)])else .last [(true,6),(true,10),(false,11),(true,13)])) (Fs f Y sd G N c1 dl) oK oK cx.out ?_ ?_
 ·simp only[reduceIte,Nat.reduceEqDiff,wpTree,attachW,List.getElem?_cons_zero,List.getElem?_cons_succ];rw[<-s];clear s
  repeat' (first
   |(refine' pj rfl (λW E=>?_) ?_;rotate_left;(have m3:=ex.out W E;go_simp;rfl);simp only[yQ,yU,yX,yY])
   |(refine' ep 28 rfl rfl _ yi (ah y.out _) ?_;simp only[yQ,yU,yX,yY];(obtain⟨xb,ab⟩:∃b,b=wc.heap.size:=⟨_,rfl⟩);(obtain⟨O,s⟩:∃ca,ca=wc.alloc (.cells #[.int .i64 0,.int .i64 0,.slice none 0 0] 28):=⟨_,rfl⟩);rw[<-s,<-ab];(have M:Hid (af f O):=by show Below _ _ _;rw[s];exact ah y.out _);(have U:Hid (aa O xb #[.int .i64 0,.int .i64 0,.slice none 0 0] 28):=by show aa _ _ _ _;rw[s,ab];exact aa.new _ _ _ _ rfl);(have c2:Hid (f.heap.size<=xb):=by show _<=_;rw[ab];exact y.out.size);(try(have t:=av.out;have av:=Lib.hid (au t (ax _ (.cells #[.int .i64 0,.int .i64 0,.slice none 0 0] 28)));rw[<-s]at av;clear t;have a0:Hid (f.heap.size<=eb/\eb<=O.heap.size):=⟨a0.out.1,by rw[s];exact Nat.le_trans a0.out.2 oS⟩));(try(have t:=c3.out.below (ax _ (.cells #[.int .i64 0,.int .i64 0,.slice none 0 0] 28));rw[<-s]at t;have c3:=Lib.hid t;clear t));(have y:=M);clear s ab M;(obtain⟨wc,bi⟩:∃W,W=O:=⟨_,rfl⟩);(subst bi))
   |(refine fi 28 rfl _ _ rfl 28 xb #[.int .i64 0,.int .i64 0,.slice none 0 0] [.int .i64 sd,.int .i64 sd,.slice (some ⟨db,0,none⟩) N r] U.out rfl rfl Fo rfl (by intro v d0;simp only[List.mem_cons,List.not_mem_nil,or_false]at d0;rcases d0 with rfl|rfl|rfl<;>rfl) (below_setRow y.out c2.out _) ?_;simp only[yQ,yU,yX,yY];(have iz:Hid (fF (wc.setRow xb (fk sd sd (some ⟨db,0,none⟩) N r)) db dl):=c3.out.setRow U.out _);(have i0:Hid (aa (wc.setRow xb (fk sd sd (some ⟨db,0,none⟩) N r)) xb (fk sd sd (some ⟨db,0,none⟩) N r) 28):=aa.set U.out _);(have M:Hid (af f (wc.setRow xb (fk sd sd (some ⟨db,0,none⟩) N r))):=below_setRow y.out c2.out _))
   |(refine' Cc (xs:=[]) (ys:=dl) av.out a0.out.2 rfl _ _ rfl rfl rfl bz.out (iv.out.below y.out).rd oO ?_;intro l2 a5 f6 hg;(have M:Hid (af f a5):=y.out.grown hg y.out.size (λq hq=>Nat.le_trans a0.out.1 (av.out.lt q hq).1));(have gc:=Iw f6);(obtain⟨db,r,rfl,bo,bq,lH,ac⟩:=fF.cd gc bz.out io);(have c3:=Lib.hid ac);(have i1:Hid (f.heap.size<=db/\N<=r/\r<=maxLen):=⟨Nat.le_trans a0.out.1 bo,bq,lH⟩);(try have U:=Lib.hid (U.out.grown hg (Ly av.out U.out)));clear f6 gc hg ac bo bq lH;(obtain⟨wc,bi⟩:∃W,W=a5:=⟨_,rfl⟩);(subst bi);(have y:=M);clear M;refine⟨y.out,?_⟩;simp only[yQ,yU,yX,yY])
   |(refine' fD (v:= .slice (some ⟨wc.heap.size,0,none⟩) 0 0) (w':=wc.alloc (.cells #[] 4)) rfl ?_ (ah y.out _) ?_;(focus (go_simp;done));simp only[yQ,yU,yX,yY];(obtain⟨eb,b3⟩:∃b,b=wc.heap.size:=⟨_,rfl⟩);(obtain⟨O,s⟩:∃ca,ca=wc.alloc (.cells #[] 4):=⟨_,rfl⟩);rw[<-s,<-b3];(have M:Hid (af f O):=by show Below _ _ _;rw[s];exact ah y.out _);(have av:Hid (O.ownsRow eb 4 1 (.slice (some ⟨eb,0,none⟩) 0 0) 0 (([]:List Bool).map vB)):=by show World.ownsRow _ _ _ _ _ _ _;rw[s,b3];exact Fv _);(have a0:Hid (f.heap.size<=eb/\eb<=O.heap.size):=by show _/\_;rw[s,b3];exact⟨y.out.size,by simp⟩);(try(have t:=U.out.below (ax _ (.cells #[] 4));rw[<-s]at t;have U:=Lib.hid t;clear t));(have y:=M);clear s b3 M;(obtain⟨wc,bi⟩:∃W,W=O:=⟨_,rfl⟩);(subst bi))
   |(refine ag ?_;intro k Q;simp only[List.mem_cons,List.not_mem_nil,or_false]at Q;(repeat' (first|subst Q|rcases Q with Q|Q));all_goals simp only[reduceIte,Nat.reduceEqDiff,wpTree,attachW,List.getElem?_cons_zero,List.getElem?_cons_succ])
   |(refine ag ?_;refine⟨xb,db,r,eb,?_,i0.out,M.out,c2.out,iz.out,i1.out⟩;simp only[yQ,yU,yX,yY])
   |(refine ag ?_;(try simp only[reduceIte,Nat.reduceEqDiff,wpTree,attachW,List.getElem?_cons_zero,List.getElem?_cons_succ])))
 rintro a' a6 ⟨xb,db,r,eb,rfl,b4,hb,ab,ac,bo,bq,lH⟩;simp only[yQ,yU,yX,yY];have i2:=Lib.hid hb;have ey:=Lib.hid ac;have ez:=Lib.hid b4;have eA:Hid (f.heap.size<=xb/\f.heap.size<=db/\N<=r/\r<=maxLen/\db<a6.heap.size/\xb<a6.heap.size/\db≠xb):=by
  show _/\_;obtain⟨m4,t,-⟩:=id ac;exact⟨ab,bo,bq,lH,ac.lt,ar b4,BK t b4⟩
 clear hb ac b4 ab bo bq lH y cx;go_wp2;obtain⟨B,c4⟩:∃b,b=a6.heap.size:=⟨_,rfl⟩;obtain⟨gC,c5⟩:∃W,W=a6.alloc (.cells (Array.replicate nd (vB false)) 4):=⟨_,rfl⟩;rw[<-c5];simp only[<-c4];have e0:Hid (va f xb db B sd N r d dl (List.replicate nd false) gC):=by
  show va _ _ _ _ _ _ _ _ _ _ _;have e:(Array.replicate nd (vB false))=((List.replicate nd false).map vB).toArray:=by rw[List.map_replicate];simp
  rw[c5,c4];refine⟨ah i2.out _,?_,?_,aa.below ez.out (ax _ _)⟩
  ·rw[eh.out];exact ey.out.below (ax _ _)
  ·rw[e];exact bh.new a6 (List.replicate nd false)
 have T:Hid (db≠B/\xb≠db/\xb≠B/\f.heap.size<=db/\f.heap.size<=B/\g<f.heap.size/\N<=r/\r<=maxLen):=by
  show _/\_;obtain⟨mb,gD,gN,g0,md,me,g1⟩:=eA.out;refine⟨by omega,λh=>g1 h.symm,by omega,gD,by omega,cN.out.1,gN,g0⟩
 clear c4 c5 ey ez eA eh it;go_loopw [126] (λZ wr=>∃(j:Nat) (a:List Bool),j<=n2/\Z= .int .i64 j/\a.length=nd/\Hid (va f xb db B sd N r d dl a wr)) (λZ _=>n2-(intOf Z).toNat)
 case atStart=>exact⟨0,List.replicate nd false,Nat.zero_le _,rfl,by simp,e0.out⟩
 case round=>
  clear e0;obtain⟨j,a,dz,rfl,bs,K⟩:=hrel;by_cases b5:j<n2
  ·obtain⟨g2,rfl,f7,f8⟩:=bd.out.rd (by rw[<-bd.out.hn];omega);have e9:X.getD j 0∈X:=by
    have:j<X.length:=by rw[<-bd.out.hn];exact b5
    simp only[List.getD,List.getElem?_eq_getElem this,Option.getD_some];exact List.getElem_mem this
   have m5:=ek.out _ e9;have m6:wr.cell? (g2.add j)=some (.int .u16 ((X.getD j 0:Nat):Int)):=((b2.out.trans (K.out.1.mono b2.out.size)).cell (by rw[aJ];exact f7)).trans (f8 j (by rw[<-bd.out.hn];exact b5));clear f8 f7 e9;generalize X.getD j 0=x at*;obtain⟨k,Q⟩:∃k,k=x%nd:=⟨_,rfl⟩;have b6:k<nd:=by rw[Q];exact Nat.mod_lt _ oO
   have gk:(x:Int)%(nd:Int)=(k:Int):=by rw[Q];simp
   have m7:(x:Int).tmod (nd:Int)=(k:Int):=by rw[Int.tmod_eq_emod_of_nonneg oO];exact gk
   have m8:¬nd=0:=oO;have fb:d.getD k (0,0)∈d:=by
    have:k<d.length:=by rw[<-ii.out];exact b6
    simp only[List.getD,List.getElem?_eq_getElem this,Option.getD_some];exact List.getElem_mem this
   obtain⟨i3,i4⟩:=el.out _ fb;have dn:Hid ((dM sd dl d a).set (bu sd (d.getD k (0,0))) (!(dM sd dl d a).getD (bu sd (d.getD k (0,0))) false)=dM sd dl d (a.set k (!a.getD k false))):=ef.out a k bs b6;have i5:=Lib.hid (λW (E:af f W)=>cN.out.2 W E k b6);have fc:Hid ((dM sd dl d a).length=N):=by show _=_;rw[gU];exact bz.out.symm
   have f9:bu sd (d.getD k (0,0))<N:=by rw[ih.out];exact iD i3 i4
   clear fb Q;generalize d.getD k (0,0)=p at*;obtain⟨q,hq⟩:∃q,q=p.2* sd:=⟨_,rfl⟩;obtain⟨F,dp⟩:∃F,F=bu sd p:=⟨_,rfl⟩;have i6:F=q+p.1:=by rw[dp,hq];rfl
   rw[<-dp]at f9 dn;obtain⟨a7,c6⟩:∃b,b=(dM sd dl d a).getD F false:=⟨_,rfl⟩;obtain⟨a8,c7⟩:∃b,b=a.getD k false:=⟨_,rfl⟩;rw[<-c6,<-c7]at dn;have m9:(p.2:Int)* (sd:Int)=(q:Int):=by rw[hq];simp
   have na:q<=25921:=oO;have nb:IntKind.i64.wrap (q:Int)=(q:Int):=aF _ oO oO;have mk:IntKind.i64.wrap ((q:Int)+(p.1:Int))=(F:Int):=by rw[aF _ oO oO];omega
   have oo:(F:Int)<(N:Int):=oO;have op:(k:Int)<(nd:Int):=oO;have i7:Hid (∀W,fF W db (dM sd dl d a)->W.cell? ⟨db,F,none⟩=some (.bool a7)):=λW h=>by rw[c6];exact h.cell (by rw[fc.out];exact f9)
   have i8:Hid (∀W,bh W B a->W.cell? ⟨B,k,none⟩=some (.bool a8)):=λW h=>by rw[c7];exact h.cell (by rw[bs];exact b6)
   have b7:Hid (af wr wr.drew):=ai (Below.refl _ _);have fd:Hid (∀W,af wr W->(W.cell? ⟨g,H+k* 2,none⟩=some (.int .i64 (p.1:Int))/\W.cell? ⟨g,H+k* 2+1,none⟩=some (.int .i64 (p.2:Int)))/\W.cell? ⟨xb,0,none⟩=some (.int .i64 (sd:Int))/\W.cell? ⟨xb,1,none⟩=some (.int .i64 (sd:Int))/\W.cell? ⟨xb,2,none⟩=some (.slice (some ⟨db,0,none⟩) N r)):=λW E=>⟨i5.out W (ae K.out.1 E),(K.out.below E).NI⟩;have os:¬(F:Int)<0:=oO;have ot:¬(N:Int)<=(F:Int):=oO;clear hq dp c6 c7 fc i6;go_wp2;refine yO (af wr) [1,2,3,4,5,6,7,8,9,10,11,12,13,14,15] b7.out ?_
   repeat refine zO fd.out ?_
   refine ag ?_;obtain⟨d1,d2,d3⟩:=(fd.out _ b7.out).2;go_wp2;have c8:Hid (aB db wr.drew wr.drew.drew):=aB.below (ai (Below.refl _ _));have a1:Hid (va f xb db B sd N r d dl a wr.drew.drew):=K.out.below (ai b7.out);have fe:Hid (∀W,aB db wr.drew W->W.cell? ⟨xb,2,none⟩=some (.slice (some ⟨db,0,none⟩) N r)):=λW E=>(E.row (K.out.below b7.out).2.2.2 T.out.2.1).cell 2 _ rfl;refine yO (λW=>aB db wr.drew W) [1,2,3,4,5,6,7,0,8,0,9,10,0,11] c8.out ?_
   repeat refine zO fe.out ?_
   have fl:=i7.out _ a1.out.2.1;have fn:=a1.out.2.1.frozen F;refine' zQ (v:= .bool a7) (w':=wr.drew.drew) rfl (by go_simp) c8.out ?_
   repeat refine zO fe.out ?_
   refine Dw rfl _ _ rfl db F a7 (!a7) rfl rfl fl fn (c8.out.trans (aB.eT _)) ?_;simp only[yQ,yU,yX,yY];refine ag ?_;obtain⟨al,c9⟩:∃W,W=wr.drew.drew.setCell ⟨db,F,none⟩ (.bool (!a7)):=⟨_,rfl⟩;have a2:Hid (af f al/\fF al db (dM sd dl d (a.set k (!a8)))/\bh al B a/\aa al xb (fk sd sd (some ⟨db,0,none⟩) N r) 28):=by
    show _/\_;rw[c9,<-dn.out];exact⟨a1.out.1.setCell T.out.2.2.2.1 _,a1.out.2.1.set _ _,aa.bP a1.out.2.2.1 _ _ T.out.1.symm,aa.bP a1.out.2.2.2 _ _ T.out.2.1⟩
   rw[<-c9];have i9:=i8.out _ a2.out.2.2.1;have nc:al.frozen? ⟨B,k,none⟩=false:=frozen_of_row _ _ _ _ _ a2.out.2.2.1;have jp:Hid (va f xb db B sd N r d dl (a.set k (!a8)) (al.setCell ⟨B,k,none⟩ (.bool (!a8)))):=⟨a2.out.1.setCell T.out.2.2.2.2.1 _,a2.out.2.1.other _ _ T.out.1,a2.out.2.2.1.set _ _,aa.bP a2.out.2.2.2 _ _ T.out.2.2.1⟩;clear c9 fl fn d1 d2 d3;go_wp2;exact⟨⟨j+1,a.set k (!a8),by omega,by go_num,by rw[List.length_set];exact bs,jp.out⟩,by simp[intOf];omega⟩
  ·obtain rfl:n2=j:=oO;clear ef bd ek cN el;go_wp2;go_loopw [21,178] (λg3 Z ch=>∃i:Nat,i<=o/\Z= .int .i64 i/\g3= .int .i64 (((jy a off z i).length:Nat):Int)/\wr=ch) (λ_ Z _=>o-(intOf Z).toNat)
   case atStart=>exact⟨0,Nat.zero_le _,rfl,rfl,rfl⟩
   case round=>
    obtain⟨i,ml,rfl,rfl,rfl⟩:=hrel;have nl:(jy a off z i).length<=4000:=by
     have t:(jy a off z i).length<=(List.range i).length:=List.length_filter_le _ _;rw[List.length_range]at t;omega
    by_cases b5:i<o
    ·obtain⟨am,b8⟩:∃x,x=i* z:=⟨_,rfl⟩;have no:(i:Int)* (z:Int)=(am:Int):=by rw[b8];simp
     have ov:am+z<=J:=by
      have t:(i+1)* z<=o* z:=Nat.mul_le_mul_right z b5;rw[<-ip.out,Nat.succ_mul,<-b8]at t;exact t
     obtain⟨u,fo⟩:∃x,x=off+am:=⟨_,rfl⟩;have np:IntKind.i64.wrap ((off:Int)+(am:Int))=(u:Int):=by rw[aF _ oO oO];omega
     obtain⟨a9,jr⟩:∃x,x=u+z:=⟨_,rfl⟩;have nz:IntKind.i64.wrap ((u:Int)+(z:Int))=(a9:Int):=by rw[aF _ oO oO];omega
     have fr:Hid (yj a off z i=(List.range z).any λx=>a.getD (u+x) false):=by show _=_;unfold yj;rw[fo,b8]
     have da:=Lib.hid (J6 a off z i);have kd:a9-u=z:=oO;have ks:a9<=nd:=oO;have kw:u<=a9:=oO;have kz:u<nd:=oO;have n0:IntKind.i64.wrap (J:Int)=(J:Int):=aF _ oO oO;have jv:IntKind.i64.wrap (am:Int)=(am:Int):=aF _ oO oO;have n5:IntKind.i64.wrap ((nd:Int)-(J:Int))=(off:Int):=by rw[aF _ oO oO];omega
     rw[fr.out]at da;generalize(jy a off z i).length=m at*;have n6:u+z<=nd:=oO;clear b8 fr fo jr;go_wp2_with((with_reducible show wpList _ _ _ (⟨some 196,Op.slice 26 _ _ _ _,_,_,_,_⟩::_) _ _);refine ku rfl (qb rfl rfl rfl rfl u a9 rfl rfl kw ks kz) ?_;rw[kd,add_plain,Nat.zero_add])
     go_loopw [24,198] (λg4 ci ch=>∃C:Nat,C<=z/\ci= .int .i64 C/\g4= .bool ((List.range C).any λx=>a.getD (u+x) false)/\wr=ch) (λ_ ci _=>z-(intOf ci).toNat)
     case atStart=>exact⟨0,Nat.zero_le _,rfl,rfl,rfl⟩
     case round=>
      obtain⟨C,n7,rfl,rfl,rfl⟩:=hrel;by_cases n8:C<z
      ·have i9:wr.cell? ⟨B,u+C,none⟩=some (.bool (a.getD (u+C) false)):=K.out.2.2.1.cell (by rw[bs];omega);have fv:=Lib.hid (any_succ a u C);generalize a.getD (u+C) false=mm at*;generalize((List.range C).any λx=>a.getD (u+x) false)=ck at*;rcases ck with _|_
       ·go_wp2;exact⟨⟨C+1,by omega,by go_num,by rw[fv.out];simp,by first|rfl|trivial⟩,by simp[intOf];omega⟩
       ·go_wp2;exact⟨⟨C+1,by omega,by go_num,by rw[fv.out];simp,by first|rfl|trivial⟩,by simp[intOf];omega⟩
      ·obtain rfl:z=C:=oO;generalize((List.range z).any λx=>a.getD (u+x) false)=ck at*;rcases ck with _|_
       ·have dd:(jy a off z (i+1)).length=m:=by have:=da.out;simpa using this
        go_wp2;exact⟨⟨i+1,by omega,by go_num,by rw[dd],by first|rfl|trivial⟩,by simp[intOf];omega⟩
       ·have dd:(jy a off z (i+1)).length=m+1:=by have:=da.out;simpa using this
        go_wp2;exact⟨⟨i+1,by omega,by go_num,by rw[dd];go_num,by first|rfl|trivial⟩,by simp[intOf];omega⟩
    ·obtain rfl:o=i:=oO;have n9:=ib.out en.out;have gb:Hid (2* (jy a off z o).length<=o-D->∀V A N a4,SR vB false V A N a4 (dM sd dl d a)->Calls Tryz.prog 14 #[fq sd sd A N a4] V (gO V (l,((jy a off z o).length:Int),0))):=λh=>cp.out en.out a bs h;have fx:Hid (Below w.heap.size w wr):=b2.out.trans (K.out.1.mono b2.out.size);have j0:Hid (N=(dM sd dl d a).length):=by show _=_;rw[gU];exact bz.out
     generalize(jy a off z o).length=m at*;obtain⟨bx,fz⟩:∃x,x=o-D:=⟨_,rfl⟩;have ob:IntKind.i64.wrap ((o:Int)-(D:Int))=(bx:Int):=by rw[aF _ oO oO];omega
     obtain⟨ap,f0⟩:∃x,x=2* m:=⟨_,rfl⟩;have oi:(2:Int)* (m:Int)=(ap:Int):=oO;have jv:IntKind.i64.wrap (ap:Int)=(ap:Int):=aF _ oO oO;rw[<-fz,<-f0]at gb;clear fz f0;have dy:=(ex.out wr K.out.1).2.2.1;obtain⟨d1,d2,d3⟩:=K.out.NI;by_cases hb:ap<=bx
     ·have g5:¬(bx:Int)<(ap:Int):=oO
      go_wp2_with(first
       |(go_at_call 14;refine(gb.out hb _ _ _ _ (K.out.2.1.sr j0.out T.out.2.2.2.2.2.2.1 T.out.2.2.2.2.2.2.2)).mono ?_;rintro e a5 ⟨d4,d5,d6,rfl,f1,f2⟩;have f3:Hid (Below w.heap.size w a5):=ae fx.out f2;have j2:Hid (SR vU 0 a5 d4 d5 d6 l):=f1;have kc:=Lib.hid (ge.out.below f3.out);clear f1 f2)
       |((with_reducible show wpList _ _ _ (⟨some 229,Op.convert 22 9 _,_,_,_,_⟩::_) _ _);refine sZ rfl (q8 (A:=d4) (n:=d5) (c:=d6) rfl rfl j2.out) ?_)
       |((with_reducible show wpList _ _ _ (⟨some 231,Op.convert 22 9 _,_,_,_,_⟩::_) _ _);refine sZ rfl (q8 (A:=A) (n:=n) (c:=bv) rfl rfl kc.out) ?_)
       |(go_at_call 11;refine(ei.out _).mono ?_;rintro e co ⟨rfl,bt⟩;have de:Hid (Below w.heap.size w co):=ae f3.out bt;clear bt))
      go_ret;exact⟨rfl,de.out⟩
     ·have g5:(bx:Int)<(ap:Int):=oO;go_wp2_with(go_at_call 11;refine(ei.out _).mono ?_;rintro e co ⟨rfl,bt⟩;have de:Hid (Below w.heap.size w co):=ae fx.out bt;clear bt)
      go_ret;exact⟨rfl,de.out⟩
theorem JK (A:Option Addr) (n d:Nat) (l:List UInt8) (a:Int) (f:Bool) (i:Int) (j:Option Addr) (n2 m:Nat) (F:List Nat) (w:World) (hs:SR vU 0 w A n d l) (y:SR vH 0 w j n2 m F/\∀x∈F,x<=65535):Calls Tryz.prog 4 #[.slice A n d,.agg #[.int .i64 a,.bool f,.int .i64 i],.slice j n2 m] w λe w'=>e= .returned (.bool true)/\Below w.heap.size w w':=by
 have P:n<=9223372036854775807:=by have:=hs.hm;have:=hs.hc;unfold maxLen at*;omega
 have Q:n2<=9223372036854775807:=by have:=y.1.hm;have:=y.1.hc;unfold maxLen at*;omega
 have hn:n=l.length:=hs.hn;by_cases a0:60<n
 ·exact wH A n d a f i j n2 m w P Q (.inl a0)
 by_cases B:6<a
 ·exact wH A n d a f i j n2 m w P Q (.inr (.inl ⟨by omega,B⟩))
 by_cases a5:200<n2
 ·exact wH A n d a f i j n2 m w P Q (.inr (.inr ⟨by omega,B,a5⟩))
 obtain⟨e,s⟩:∃z,z=l4 l a f i:=⟨_,rfl⟩;obtain⟨E,k⟩:=e;cases E with
 |none=>
  refine JI A n d a f i k j n2 m w oO B oO (GF s.symm) λV G=>?_;refine(qf A n d l a f i V (hs.below G) oO).mono ?_;rintro e w' ⟨-,v,rfl,t,hb⟩;rw[<-s]at t⊢;obtain rfl:=t;exact⟨rfl,hb⟩
 |some p=>
  obtain⟨L,c⟩:=p;obtain⟨rfl,W,a8,H,b,S⟩:=zo s.symm;have a1:=j6 L c H b;have a6:=eQ L;have be:=room_le (c:=c) b;have a2:=oc L c;have a3:=nf L c;have bd:=pc (c:=c) b;have a9:1<=ie L c:=by unfold ie;split<;>exact Nat.mul_pos oO oO
  have N:(eB L c (aI (bE l) (aq L))).length=aj L c* aj L c:=kD _ _ _ _;have T:∀p∈aZ L c,bu (aj L c) p<(eB L c (aI (bE l) (aq L))).length:=λp o=>by rw[N];exact iD (fL b o).1 (fL b o).2
  have X:(aZ L c).Pairwise λp q=>bu (aj L c) p≠bu (aj L c) q:=mM (rT b) λp o=>(fL b o).1;refine LP A n d l a f i j n2 m F L c (aI (bE l) (aq L)).length (aj L c) (aj L c* aj L c) (aZ L c).length (aq L) (aD L c) (eB L c (aI (bE l) (aq L))) (aZ L c) (∃C,cj (bA l) C) w oO B oO hs y.1 y.2 N.symm rfl oO a1.2 rfl oO oO oO oO (by rw[a3];exact a2) oO (λp o=>fL b o) (λV G=>?_) (λV=>?_) (λV=>?_) (λU k J Y=>GY T X J Y) (GN T) (λ⟨C,r⟩=>(C5 oO r s.symm).2.2.2.2.2.1) (λ⟨C,r⟩ U J hb V D K O a4=>?_)
  ·refine(qf A n d l a f i V (hs.below G) oO).mono ?_;rintro e w' ⟨r,v,rfl,t,hb⟩;rw[<-s]at t⊢;obtain⟨D,K,O,bb,rfl,h⟩:=t;obtain rfl:K=aj L c* aj L c:=by rw[h.hn];exact N
   exact⟨D,O,rfl,h,hb,r W⟩
  ·refine(Cd L c V).mono ?_;have M:=qD H b S;unfold KM pw pH rS;rw[if_pos M,if_pos M,if_pos M];rintro e w' ⟨v,u,rfl,⟨D,Z,rfl,-,-,ab⟩,-,hb⟩;obtain⟨g,E,rfl,e2,e3⟩:=ab (by show 0<(aZ L c).length;omega);exact⟨g,E,Z,u,rfl,hb,e2,e3⟩
  ·have h:=oU L c V;unfold Ae at h;rw[if_pos (qD H b S)]at h;exact h
  ·have h:=Db (aj L c) (aj L c) D K O _ V a4;obtain⟨ac,ad,al,am,ap,av,a7⟩:=C5 oO r s.symm;rw[Kd oO ac r ad al am rfl ap av J hb]at h;exact h
end
section
open Go.ChangeShapes Go.WideShapes Go.ChangeAt Go.RowKit
theorem k0:Rows.aztecCorrectsRow.wf (OpenSpec.ofChange Rows.aztecCorrectsSpec)=true:=oK
theorem k3:Tryz.f4.params.all (Tryz.prog.readableRec ·)=true:=oK
theorem k4:namedTie Tryz.prog Rows.aztecCorrectsRow.named Rows.aztecCorrectsSpec.vars=true:=oK
theorem k5:(Rows.aztecCorrectsRow.stops==[])=true:=oK
theorem k7:(Rows.aztecCorrectsRow.knobs==[])=true:=oK
theorem k9:(Rows.aztecCorrectsRow.inPlace==Tryz.prog.inPlace 4)=true:=oK
theorem Oq:(Rows.aztecCorrectsRow.unfollowed==Tryz.prog.unfollowed 4)=true:=oK
theorem NF:(Rows.aztecCorrectsRow.recurses==Tryz.prog.recurses 4)=true:=oK
theorem Og:(Rows.aztecCorrectsRow.named==Tryz.prog.varsNamed 4)=true:=oK
theorem Om:(Rows.aztecCorrectsRow.maps==(Tryz.f4.params.toList++Rows.aztecCorrectsSpec.plain.varTypes Tryz.prog).any (Tryz.prog.mapsRec ·))=true:=oK
theorem NZ:(Rows.aztecCorrectsRow.ifaces==(Tryz.f4.params.toList++Rows.aztecCorrectsSpec.plain.varTypes Tryz.prog).any (Tryz.prog.ifacesRec ·))=true:=oK
theorem N6:(Rows.aztecCorrectsRow.mapsOut==Tryz.prog.mapsAmong Tryz.f4.resultTypes.toList)=true:=oK
theorem Ob:(Rows.aztecCorrectsRow.loops==(Tryz.f4.params.toList++Rows.aztecCorrectsSpec.plain.varTypes Tryz.prog).any (Tryz.prog.loopsFrom ·))=true:=oK
theorem N1:(Rows.aztecCorrectsRow.wideKeys==(Tryz.f4.params.toList++Rows.aztecCorrectsSpec.plain.varTypes Tryz.prog++Tryz.f4.resultTypes.toList).any (Tryz.prog.wideKeysFrom ·))=true:=oK
theorem Ol:Rows.aztecCorrectsSpec.vars.all (Tryz.prog.varReadable ·)=true:=oK
theorem N0:Tryz.f4.resultTypes.all (λa=>Tryz.prog.readableRec a&&decide (a<Tryz.prog.types.size))=true:=oK
theorem Oi:(Rows.aztecCorrectsRow.ifacesOut==Tryz.f4.resultTypes.toList.any (Tryz.prog.ifacesRec ·))=true:=oK
theorem N2:(Rows.aztecCorrectsRow.loopsOut==Tryz.f4.resultTypes.toList.any (Tryz.prog.loopsFrom ·))=true:=oK
theorem Oc:(Rows.aztecCorrectsRow.plainKeys==Tryz.prog.plainKeys)=true:=oK
theorem Oj:Rows.aztecCorrectsRow.shortTexts.isNone=true:=oK
theorem On:(Rows.aztecCorrectsRow.lifted==Tryz.prog.liftsFinal)=true:=oK
theorem N9:(Tryz.prog.make==some Rows.aztecCorrectsRow.make)=true:=oK
theorem Od:(Rows.aztecCorrectsRow.kinds==(if Rows.aztecCorrectsRow.domain.isEmpty then[]else Tryz.f4.params.toList.map λa=>match Tryz.prog.underlying a with|some (.int k)=>some k|_=>none))=true:=oK
theorem Oa:(Rows.aztecCorrectsRow.pinned==Rows.aztecCorrectsRow.pinnedBy)=true:=oK
theorem Oo:(Rows.aztecCorrectsRow.veiled==(Tryz.f4.params.toList++Rows.aztecCorrectsSpec.plain.varTypes Tryz.prog++Tryz.f4.resultTypes.toList).any (Tryz.prog.veiledRec ·))=true:=oK
theorem KQ:Rows.aztecCorrectsRow.veiledFits Tryz.prog Tryz.f4.params.toList (Tryz.f4.params.toList++Rows.aztecCorrectsSpec.plain.varTypes Tryz.prog++Tryz.f4.resultTypes.toList)=true:=oK
theorem LQ:joinedFacts Tryz.prog 4 Tryz.f4 Rows.aztecCorrectsSpec Rows.aztecCorrectsRow=true:=cE (cE (cE (cE (cE (cE (cE (cE (cE (cE (cE (cE (cE (cE (cE (cE (cE (cE (cE (cE (cE (cE (cE (cE (cE (cE (cE (cE (cE (cE (cE k0 LN) CN) k3) k4) k5) Km) k7) Bn) k9) Oq) NF) Og) Om) NZ) N6) Ob) N1) Ol) N0) Oi) N2) Oc) Oj) As) Dt) On) N9) Od) Oa) Oo) KQ
abbrev L:List (String×DataW Unit):=[("unicode/utf8.acceptRanges",Rows.laid_unicode_utf8_acceptRanges),("unicode/utf8.first",Rows.laid_unicode_utf8_first)]
theorem lifted (os:Os) (Q:os.Started) (H:Type) (enc:TypeId×Value->H):
 ReturnsInHanded {} Tryz.checked os 4 .any (λw args=>(Rows.aztecCorrectsSpec.pre enc Tryz.prog Tryz.f4 [] false w args/\laidMetH Tryz.prog L w)/\sizedMet enc Tryz.prog Tryz.f4 (OpenSpec.ofChange Rows.aztecCorrectsSpec) false w args)
  (Rows.aztecCorrectsSpec.post enc Tryz.prog Tryz.f4 false true false false):=by
 refine returnsInHanded_of_change_and (C:=Tryz.checked) (X:=λw _=>laidMetH Tryz.prog L w) (λ_ _ _ i h=>h.of_heap i) NL Q oK Tryz.func4
  (ChangeSpec.witness_shaped (enc:=enc) (C:=Tryz.checked) (os:=os) (X:=λw _=>laidMetH Tryz.prog L w) false (World.laidAll Tryz.prog os L) #[.slice none 0 0,.agg #[.int .i64 0,.bool false,.int .i64 0],.slice none 0 0] 8 (World.laidAll_os _ _ _)
   (World.shaped_of_ZipB oK oK) oK oK oK
   (by rw[MakeChecks.laidMetH_plain _ _ _ oK];exact laidMet_laidAll _ oK oK)) ?_
 intro W base args k S a6 P c _ _ T _;have b:∀(j:Nat) a v,Tryz.f4.params[j]?=some a->args[j]?=some v->Value.okWide Tryz.prog W .any base a v:=P;have M:=c;obtain⟨p,q,N,l,rfl,am,ap⟩:=c;have d:DataW.TrodAll enc Tryz.prog W 0 (λ_=>true) true Tryz.f4.params.toList args.toList k p:=N;rw[Tryz.params4]at d b;obtain⟨v0,av,U,a0,V,Y,a5,rfl,rfl,m,n⟩:=trodAll_cons d;obtain⟨v1,a1,Z,a2,p1,ab,rfl,rfl,rfl,o,r⟩:=trodAll_cons n;obtain⟨f,a3,ac,a4,p2,ad,rfl,rfl,rfl,s,t⟩:=trodAll_cons r;obtain⟨rfl,rfl,rfl⟩:=trodAll_nil t;obtain rfl:args=#[v0,v1,f]:=by cases args;simp_all
 obtain⟨rfl,rfl⟩:=trodVars_none l;have O:∀a∈Tryz.f4.params.toList,Tryz.prog.readableRec a=true/\a<Tryz.prog.types.size:=by
  rw[Tryz.params4];intro a g;simp only[List.mem_cons,List.not_mem_nil,or_false]at g;rcases g with rfl|rfl|rfl<;>exact⟨by kernel_rfl,of_decide_eq_true oK⟩
 obtain⟨u,x,c0,y,rfl,z⟩:=JV (b 0 22 v0 rfl rfl) m;obtain⟨A,B,D,rfl⟩:=I9 (b 1 24 v1 rfl rfl) o;obtain⟨E,n2,F,G,rfl,J⟩:=Jh (b 2 39 f rfl rfl) s;refine(JK u x c0 y A B D E n2 F G W z J).mono λe al ⟨K,hb⟩=>?_;subst K;exact⟨_,rfl,IM Nv Tryz.underlying4 rfl rfl O M rfl hb⟩
theorem over:Rows.aztecCorrectsRow.holds Tryz.pinned (OpenSpec.ofChange Rows.aztecCorrectsSpec):=
 OpenClaim.holds_of_wide 4 Tryz.f4 rfl rfl rfl rfl rfl rfl rfl ⟨rfl,rfl,rfl,rfl,rfl⟩ rfl rfl rfl rfl rfl oK Tryz.func4 LQ
  (of_decide_eq_true oK) (by unfold Func.isWrapper;first|(rw[if_pos (by decide+kernel)];kernel_rfl)|(rw[if_neg (by decide+kernel)];exact⟨rfl,rfl⟩))
  (λos a H enc _=>lifted os a H enc)
theorem named:Tryz.prog.funcNamed "barscan/barscanlaw28.AztecCorrects" =some 4:=oK
theorem Md:([39,22,24].all λu=>!Tryz.prog.wantsStandIn u)=true:=oK
theorem proved:Rows.AztecCorrectsCardSaid:=
 Claim7.holds_tied_plain_at .later [] [.data,.pinned] true (true,"65e349eac71c602cf550908973254ebb7b14ef88971fe42e5ec397cea621a45b") false
  over (λ_ h=>by cases h) oK (λ_ h=>by cases h) aztecCorrects_row_tie rfl ⟨rfl,rfl⟩ oK rfl
  (λf fn c e=>by
   obtain rfl:f=4:=Option.some.inj (named.symm.trans c)|>.symm;obtain rfl:fn=Tryz.f4:=(Option.some.inj (Tryz.func4.symm.trans e)).symm
   exact⟨by kernel_rfl,λj a b=>by
    rw[Tryz.params4]at b;have d:a∈[39,22,24]:=by
     have h:=Array.mem_of_getElem? b;simp only[List.mem_toArray,List.mem_cons,List.not_mem_nil,or_false]at h;rcases h with rfl|rfl|rfl<;>simp
    exact(show Tryz.prog.wantsStandIn a=false by simpa using List.all_eq_true.1 Md a d)⟩)
  oK
end
end Go.Proofs.YtmnlkganmgcpbaaGreatDoor.aztecCorrects
