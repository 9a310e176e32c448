import Derived.Test.YtmnlkganmgcpbaaGreatDoorQe8
import Derived.Test.YtmnlkganmgcpbaaGreatDoorTie
import Derived.OpenShut
import Derived.Carry
import Derived.Lay
import Derived.LaidMore
import Derived.SevenTiedAt
import Derived.Deep.Grids
import Derived.Lib.SmallJoins
import Derived.JoinedOf
set_option maxRecDepth 100000
set_option maxHeartbeats 4000000
set_option linter.unusedVariables false
set_option linter.unusedSectionVars false
set_option linter.unusedSimpArgs false
namespace Go.Proofs.YtmnlkganmgcpbaaGreatDoor
section
open Go.RowKit Go.WideMaps Go.Maps
def I2:an:=⟨0,-1,0,false,0,0,0⟩
theorem CS.congr {w wr:World} {b n:Nat} {C C':Nat->Nat->Nat} (h:CS w wr b n C) (hc:∀a m,m<5->C a m=C' a m) (hb:∀a m,C' a m<=1099511627776):CS w wr b n C':=by
 obtain⟨i,d,e,f⟩:=h.R;exact⟨h.B,h.lo,⟨i,d,e,λa m g c=>by rw[f a m g c,hc a m c]⟩,hb⟩
theorem mu.load {wr:World} {g m:Nat} {l:List an} (h:mu wr g m l) {j:Nat} {a:an} (b:l[j]?=some a):∀q v,(di m a)[q]?=some v->wr.cell? ((⟨g,j* 11,none⟩:Addr).add q)=some v:=by
 intro q v hq;rw[add_plain];exact h.2 j a b q v hq
theorem jN {a:Act} {c:Oper} {W:World} {q:Operand} (d:c.op= .load 130 q) (g f b:Nat) (x:an) (e:a.eval q= .pointer (some ⟨g,f,none⟩)) (h:∀j v,(di b x)[j]?=some v->W.cell? ((⟨g,f,none⟩:Addr).add j)=some v):
 (execOp a.eval c).run Tryz.prog W= .ok (.value (.agg (di b x).toArray)) W:=by
 have i:=fH (P:=Tryz.prog) W 130 _ ⟨g,f,none⟩ (di b x) Tryz.underlying130 rfl qD h;unfold execOp;simp only[d,e,Instr.loadAt,Instr.sureAddr,Sem.run_bind,Sem.run_pure,Result.andThen_ok,i]
def uq (vv ww:Nat->Nat):Nat->List Bool
 |0=>[]
 |k+1=>uq vv ww k++aH (vv k) (ww k)
theorem CH {vv ww:Nat->Nat} (h:∀k,ww k<=62):∀k,(uq vv ww k).length<=62* k
 |0=>Nat.le_refl _
 |k+1=>by
  have a:=CH (vv:=vv) h k;have b:=h k;unfold uq;rw[List.length_append,bm];omega
def Ko (m:Nat) (a:an):List Nat:=[m,a.w1,a.w2,0]
theorem Hy {W:World} {b m:Nat} {a:an} (h:ai W b (di m a)) {k:Nat} (d:k<4):W.cell? ⟨b,4+k,none⟩=some (.int .i64 (((Ko m a).getD k 0:Nat):Int)):=by
 have c:k=0\/k=1\/k=2\/k=3:=oO;rcases c with rfl|rfl|rfl|rfl
 ·exact h.2 4 (by show 4<11;omega)
 ·exact h.2 5 (by show 5<11;omega)
 ·exact h.2 6 (by show 6<11;omega)
 ·exact h.2 7 (by show 7<11;omega)
theorem Hk (m:Nat) (a:an):uq (λk=>(jd a).getD k 0) (λk=>(Ko m a).getD k 0) 4=(aH a.num m++aH a.v1 a.w1)++aH a.v2 a.w2:=by
 show((([]++aH a.num m)++aH a.v1 a.w1)++aH a.v2 a.w2)++aH 0 0=_;rw[lU,List.append_nil,List.nil_append]
theorem Atom.KT {p:ByteArray} {a m:Nat} {c:an} (h:Atom p a m c):c.run<=2078:=by
 cases h with
 |chars n hn b e=>exact Nat.zero_le _
 |fQ n hn b=>exact Nat.zero_le _
 |shift n s hn b hs i e=>exact Nat.zero_le _
 |short n j hn b f d g=>show j<=_;omega
 |long n j hn b f d g=>exact d
theorem Gx {p:ByteArray} {a r:Nat} (h:a<=r):byF p a (r+1-a)=byF p a (r-a)++aH (p.data.toList.getD r 0).toNat 8:=by
 obtain⟨d,rfl⟩:∃d,r=a+d:=⟨r-a,by omega⟩;rw[show a+d+1-a=d+1 from by omega,show a+d-a=d from by omega];rfl
theorem sB (A:Option Addr) (n c:Nat) (l:List UInt8) (w:World) (be:SR vU 0 w A n c l) (hn:n<=2000) (C:Nat->Nat->Nat) (am:cj (bA l) C):
 Calls Tryz.prog 53 #[.slice A n c] w (RT vB false w (pC (bA l) C,0)):=by
 have et:n=l.length:=be.hn;have g1:=Lib.hid be;have fo:Hid (∀j,l.getD j 0=(bA l).data.toList.getD j 0):=by show∀j,_;intro j;show _=l.toArray.toList.getD j 0;rw[List.toList_toArray]
 have g0:Hid (∀(a m:Nat) (W:World),af w W->a<=n->m<5->Calls Tryz.prog 101 #[.slice A n c,.int .i64 (a:Int),.int .i64 (m:Int)] W λe w'=>∃v,e= .returned v/\e8 (aj m) W w' v (dp (bA l) a m)):=
  λa m W d b6 K=>uA A n c l a m W (be.below d) oO b6 K
 have gX:Hid (Calls Tryz.prog 100 #[.slice A n c] w λe w'=>∃J,e= .returned (.slice (some ⟨J,0,none⟩) (n+1) (n+1))/\CS w w' J n C):=by
  show Calls _ _ _ _ _;refine(Dv A n c l w be oO).mono ?_;rintro e w' ⟨J,C',M,V,Z⟩;exact⟨J,M,V.congr (λa m K=>Z.uniq (am.ac (by rw[iS];omega)) a m K) (λa m=>by have:=am.top a m;omega)⟩
 obtain⟨p,bs⟩:∃p,p=bA l:=⟨_,rfl⟩;have ce:p.size=n:=by rw[bs,iS,et]
 have a6:=Lib.hid ce;rw[<-bs]at g0 am fo;rw[<-bs];have d5:=Lib.hid am;obtain⟨E,b7⟩:∃E,E=pC p C:=⟨_,rfl⟩;have ix:Hid (fB p (cB C p) (C 0 0) 0 0=E):=by show _=_;rw[b7];rfl
 have fr:E.length=C 0 0:=by rw[b7];exact qj (by rw[ce];omega) am
 have ks:Hid (E.length<=40000):=by
  show _<=_;have M:=ui (l:=l) (C:=C) oO (by rw[<-bs];exact am.ac (by rw[ce];omega));omega
 have i0:=Lib.hid fr;rw[<-b7];have k2:decide ((4096:Int)<(n:Int))=false:=by simp;omega
 clear be et bs ce am b7 fr;go_enter Tryz.func53,Tryz.ntmps53;go_wp2_with fail
 refine gX.out.mono ?_;rintro e w1 ⟨J,rfl,bt⟩;have fv:=Lib.hid bt;clear bt gX;go_wp2_with fail
 go_loopw [5,6,7] (λbf c9 dl wr=>∃(a m F:Nat) (out:List Bool) (a5:Option Addr) (co:Nat),a<=n/\m<5/\c9= .int .i64 a/\dl= .int .i64 m/\bf= .slice a5 out.length co/\Hid (SR vB false wr a5 out.length co out)/\Hid (CS w wr J n C)/\Hid (out++fB p (cB C p) F a m=E)/\Hid (C a m<=F)/\Hid (out.length+C a m=E.length)) (λ_ c9 dl _=>C (intOf c9).toNat (intOf dl).toNat)
 case atStart=>exact⟨0,0,C 0 0,[],none,0,by omega,by omega,rfl,rfl,rfl,⟨rfl,Nat.le_refl _,by unfold maxLen;omega,RG.dD _ _⟩,fv.out,ix.out,Nat.le_refl _,by show _=_;rw[i0.out];simp⟩
 case round=>
  clear fv;obtain⟨a,m,F,out,a5,co,b6,K,rfl,rfl,rfl,dm,a7,cg,hF,d6⟩:=hrel;by_cases i1:a<n
  ·have a8:a<p.size:=by rw[a6.out];exact i1
   obtain⟨k3,fx,f0,f1,f2⟩:=d5.out.xL (by rw[a6.out];omega) a m a8 K;have f3:=Lib.hid fx;have al:=Lib.hid f0;have i2:=Lib.hid f1;have i3:=Lib.hid f2;have gs:=Lib.hid (g0.out a m wr a7.out.B b6 K);clear fx f0 f1 f2;go_wp2_with fail
   refine gs.out.mono ?_;rintro e D ⟨v,rfl,b8⟩;obtain⟨g2,k4,rfl,c6⟩:=b8.row;have i4:=a7.out.lt;obtain⟨L,bi⟩:∃L,L=dp p a m:=⟨_,rfl⟩;obtain⟨len,b4⟩:∃len,len=L.length:=⟨_,rfl⟩;rw[<-bi]at c6;rw[<-bi];rw[<-b4]at c6;rw[<-b4];have eu:=Lib.hid bi;have gt:=Lib.hid b4;have mp:len<=3200:=by
    rw[b4,bi];unfold dp;rw[List.length_append,r5];have M:=oX p a m (2^aj m);have V:=qJ m;have Z:uH p a m<=2078:=by unfold uH;split<;>omega
    generalize 2^aj m=Q at*;omega
   have gx:Hid (0<len->∃g,g2=some ⟨g,0,none⟩/\mu D g (aj m) L):=by
    show _->_;intro g3;obtain⟨g,M,V,Z⟩:=c6 g3;exact⟨g,M,Z⟩
   have d7:Hid (CS w D J n C):=a7.out.below b8.B;have f4:Hid (SR vB false D a5 out.length co out):=dm.out.below b8.B;clear gs b8 c6 i4 b4 bi a7 dm;have d8:Hid (aa (D.alloc (.cells #[.int .i64 0,.int .i64 0,.int .i64 0,.int .i64 0,.int .i64 0,.int .i64 0,.int .i64 0,.int .i64 0,.int .i64 0,.int .i64 0,.int .i64 0] 130)) D.heap.size (di 0 I2).toArray 130):=aa.new _ _ _ _ rfl;have f5:Hid (af D (D.alloc (.cells #[.int .i64 0,.int .i64 0,.int .i64 0,.int .i64 0,.int .i64 0,.int .i64 0,.int .i64 0,.int .i64 0,.int .i64 0,.int .i64 0,.int .i64 0] 130))):=ar _ _;go_wp2_with fail
   generalize(D.alloc (.cells #[.int .i64 0,.int .i64 0,.int .i64 0,.int .i64 0,.int .i64 0,.int .i64 0,.int .i64 0,.int .i64 0,.int .i64 0,.int .i64 0,.int .i64 0] 130))=k5 at*;obtain⟨i,ch⟩:∃i,i=D.heap.size:=⟨_,rfl⟩;have f6:=Lib.hid ch;rw[<-ch]at d8;rw[<-ch];clear ch;obtain⟨x,ex⟩:∃x,x=C a m:=⟨_,rfl⟩;have ey:=Lib.hid ex;clear ex;go_loopw [10,11] (λg4 N wr=>∃(k:Nat) (fd:Bool) (o:Nat) (ob:an),k<=len/\N= .int .i64 k/\g4= .bool fd/\Hid (af D wr)/\Hid (aa wr i (di o ob).toArray 130)/\Hid (eQ C L x k fd ob)/\Hid (fd=true->o=aj m)) (λ_ N _=>len-(intOf N).toNat)
   case atStart=>exact⟨0,false,0,I2,Nat.zero_le _,rfl,rfl,f5.out,d8.out,eQ.start _,λh=>by cases h⟩
   case round=>
    clear d8 f5;obtain⟨k,fd,o,ob,dn,rfl,rfl,d,G,Y,bv⟩:=hrel;by_cases i5:k<len
    ·obtain⟨g,rfl,i6⟩:=gx.out oO;obtain⟨f,b9⟩:∃f,L[k]?=some f:=⟨_,List.getElem?_eq_getElem (by rw[<-gt.out];exact i5)⟩;have X:=Lib.hid b9;have ca:Atom p a m f:=iI a8 (by rw[<-eu.out];exact List.mem_of_getElem? b9);obtain⟨ci,c7⟩:∃x,x=f.size:=⟨_,rfl⟩;obtain⟨s,B⟩:∃x,x=f.at_:=⟨_,rfl⟩;obtain⟨y,H⟩:∃x,x=f.mode:=⟨_,rfl⟩;have k7:ci<=20000:=by rw[c7];exact ca.size_le
     have g5:s<=n:=by rw[B,<-a6.out];exact ca.Eb a8
     have g6:y<5:=by rw[H];exact ca.mO K
     obtain⟨cb,ck⟩:∃x,x=C s y:=⟨_,rfl⟩;have mm:cb<=1073741824:=by rw[ck];exact d5.out.top _ _
     obtain⟨O,d9⟩:∃O,O=ci+cb:=⟨_,rfl⟩;have ea:Hid (O=f.aG C):=by show _=_;rw[d9,ck,c7,B,H];rfl
     have U:Hid (∀W,af wr W->mu W g (aj m) L):=λW z=>i6.below (ab d.out z);have bb:Hid (∀W,af wr W->CS w W J n C):=λW z=>d7.out.below (ab d.out z);have b:Hid (∀W,af wr W->W.cell? ⟨g,k* 11+8,none⟩=some (.int .i64 (ci:Int))/\W.cell? ⟨g,k* 11+9,none⟩=some (.int .i64 (s:Int))/\W.cell? ⟨g,k* 11+10,none⟩=some (.int .i64 (y:Int))/\W.cell? ⟨J,s* 5+y,none⟩=some (.int .i64 (cb:Int))/\W.cell? ⟨J,a* 5+m,none⟩=some (.int .i64 (x:Int))):=by
      show∀W,_;intro W z;obtain⟨M,V,Z⟩:=(U.out W z).facts b9;rw[c7,B,H];refine⟨M,V,Z,?_,?_⟩
      ·rw[ck,B,H,B.symm,H.symm];exact(bb.out W z).cell _ _ g5 g6
      ·rw[ey.out];exact(bb.out W z).cell _ _ b6 K
     have cp:Hid (IntKind.i64.wrap ((ci:Int)+(cb:Int))=(O:Int)):=by show _=_;rw[d9,IntKind.wrap_i64];omega
     have lv:(s:Int)<(n:Int)+1:=oO;have lw:(a:Int)<(n:Int)+1:=oO;have lx:(y:Int)<5:=oO;have ly:(m:Int)<5:=oO;clear b9 ca c7 B H ck d9;by_cases a2:O=x
     ·have g7:((O:Int)==(x:Int))=true:=by rw[beq_iff_eq];omega
      cases fd with
      |false=>
       have a3:Hid (eQ C L x (k+1) true f):=Y.out.first X.out (by rw[<-ea.out];exact a2);clear a2 Y;go_wp2_with fail
       refine yO (af wr) [1,2,3,4,5,6,7,8,9,10,11,12,13,14,15,16,17,18,19,20,21,22,23,24,25,26,27,28,29,30,31,32,33,34,35,36,37,38,0,39,0,40,41] (ak (Below.refl _ _)) ?_;refine zO b.out ?_;refine zO b.out ?_;refine zO b.out ?_;refine zO b.out ?_;refine zO b.out ?_;refine zO b.out ?_;refine zO b.out ?_;refine zO b.out ?_;refine zO b.out ?_;refine zO b.out ?_;refine zO b.out ?_;refine zO b.out ?_;refine zO b.out ?_;refine zO b.out ?_;refine zO b.out ?_;refine zO b.out ?_;refine zO b.out ?_;refine zO b.out ?_;refine zO b.out ?_;refine zO b.out ?_;refine' eN (v:= .int .i64 (O:Int)) rfl (λW d=>?_) ?_
       ·go_simp;exact cp.out
       simp only[yQ,yU,yX,yY];refine zO b.out ?_;refine zO b.out ?_;refine zO b.out ?_;refine zO b.out ?_;refine zO b.out ?_;refine zO b.out ?_;refine zO b.out ?_;refine' eN (v:= .bool true) rfl (λW d=>?_) ?_
       ·go_simp
       simp only[yQ,yU,yX,yY];refine zO b.out ?_
       repeat refine zX b.out ?_
       refine zJ rfl ?_;refine zJ rfl ?_;refine zJ rfl ?_;refine zJ rfl ?_;refine zJ rfl ?_;refine yV rfl (ak (Below.refl _ _)) ?_
       repeat refine zX b.out ?_
       refine ag ?_;have a4:Hid (af D wr.drew):=ak d.out;have ac:Hid (aa wr.drew i (di o ob).toArray 130):=G.out.below (ak (Below.refl _ _));have bx:Hid (∀q v,(di (aj m) f)[q]?=some v->wr.drew.cell? ((⟨g,k* 11,none⟩:Addr).add q)=some v):=(U.out _ (ak (Below.refl _ _))).load X.out;clear G d b U bb;generalize wr.drew=P at*
       go_wp2_with(first
        |((with_reducible show wpList _ _ _ (⟨_,Op.load 130 _,_,_,_,_⟩::_) _ _);refine aK rfl 130 _ rfl _ Tryz.underlying130 rfl ⟨g,k* 11,none⟩ (di (aj m) f) qD rfl bx.out ?_)
        |((with_reducible show wpList _ _ _ (⟨_,Op.store 130 _ _,_,_,_,_⟩::_) _ _);refine bQ rfl 130 _ _ rfl 130 i 0 _ (di (aj m) f) rfl rfl ac.out qD (by show 0+11<=11;omega) (uY _ _) ?_))
       rw[fM (di o ob) (di (aj m) f) rfl];exact⟨⟨k+1,true,aj m,f,by omega,by go_num,rfl,below_setRow a4.out (Nat.le_of_eq f6.out.symm) _,ac.out.set _,a3.out,λ_=>rfl⟩,by simp[intOf];omega⟩
      |true=>
       have cq:o=aj m:=bv.out rfl;cases a9:eD f ob with
       |true=>
        have a3:Hid (eQ C L x (k+1) true f):=Y.out.take X.out (by rw[<-ea.out];exact a2) a9;have ec:=Lib.hid a9;clear a2 Y a9 cq;go_wp2_with fail
        refine yO (af wr) [1,2,3,4,5,6,7,8,9,10,11,12,13,14,15,16,17,18,19,20,21,22,23,24,25,26,27,28,29,30,31,32,33,34,35,36,37,38,0,39,0,40,41] (ak (Below.refl _ _)) ?_;refine zO b.out ?_;refine zO b.out ?_;refine zO b.out ?_;refine zO b.out ?_;refine zO b.out ?_;refine zO b.out ?_;refine zO b.out ?_;refine zO b.out ?_;refine zO b.out ?_;refine zO b.out ?_;refine zO b.out ?_;refine zO b.out ?_;refine zO b.out ?_;refine zO b.out ?_;refine zO b.out ?_;refine zO b.out ?_;refine zO b.out ?_;refine zO b.out ?_;refine zO b.out ?_;refine zO b.out ?_;refine' eN (v:= .int .i64 (O:Int)) rfl (λW d=>?_) ?_
        ·go_simp;exact cp.out
        simp only[yQ,yU,yX,yY];refine zO b.out ?_;refine zO b.out ?_;refine zO b.out ?_;refine zO b.out ?_;refine zO b.out ?_;refine zO b.out ?_;refine zO b.out ?_;refine' eN (v:= .bool true) rfl (λW d=>?_) ?_
        ·go_simp
        simp only[yQ,yU,yX,yY];refine zO b.out ?_;refine zX b.out ?_;refine zX b.out ?_;refine zX b.out ?_;refine zX b.out ?_;refine zX b.out ?_;refine zX b.out ?_;refine' zW rfl (λW d=>jN rfl g (k* 11) (aj m) f rfl ((U.out W d).load X.out)) ?_;refine' zW rfl (λW d=>jN rfl i 0 o ob rfl (bS (G.out.below d).cells)) ?_;refine zZ ?_;refine(wN (aj m) o f ob _).mono ?_;rintro e P ⟨rfl,b1⟩;rw[ec.out];have T:Hid (af wr P):=(ak (Below.refl _ _)).trans b1;clear b1;refine⟨_,rfl,T.out,jO ?_⟩
        repeat refine zX b.out ?_
        refine ag ?_;have a4:Hid (af D P):=ab d.out T.out;have ac:Hid (aa P i (di o ob).toArray 130):=G.out.below T.out;have bx:Hid (∀q v,(di (aj m) f)[q]?=some v->P.cell? ((⟨g,k* 11,none⟩:Addr).add q)=some v):=(U.out _ T.out).load X.out;clear G d b U bb T
        go_wp2_with(first
         |((with_reducible show wpList _ _ _ (⟨_,Op.load 130 _,_,_,_,_⟩::_) _ _);refine aK rfl 130 _ rfl _ Tryz.underlying130 rfl ⟨g,k* 11,none⟩ (di (aj m) f) qD rfl bx.out ?_)
         |((with_reducible show wpList _ _ _ (⟨_,Op.store 130 _ _,_,_,_,_⟩::_) _ _);refine bQ rfl 130 _ _ rfl 130 i 0 _ (di (aj m) f) rfl rfl ac.out qD (by show 0+11<=11;omega) (uY _ _) ?_))
        rw[fM (di o ob) (di (aj m) f) rfl];exact⟨⟨k+1,true,aj m,f,by omega,by go_num,rfl,below_setRow a4.out (Nat.le_of_eq f6.out.symm) _,ac.out.set _,a3.out,λ_=>rfl⟩,by simp[intOf];omega⟩
       |false=>
        have a3:Hid (eQ C L x (k+1) true ob):=Y.out.cZ X.out a9;have ec:=Lib.hid a9;clear a2 Y a9 cq;go_wp2_with fail
        refine yO (af wr) [1,2,3,4,5,6,7,8,9,10,11,12,13,14,15,16,17,18,19,20,21,22,23,24,25,26,27,28,29,30,31,32,33,34,35,36,37,38,0,39,0,40,41] (ak (Below.refl _ _)) ?_;refine zO b.out ?_;refine zO b.out ?_;refine zO b.out ?_;refine zO b.out ?_;refine zO b.out ?_;refine zO b.out ?_;refine zO b.out ?_;refine zO b.out ?_;refine zO b.out ?_;refine zO b.out ?_;refine zO b.out ?_;refine zO b.out ?_;refine zO b.out ?_;refine zO b.out ?_;refine zO b.out ?_;refine zO b.out ?_;refine zO b.out ?_;refine zO b.out ?_;refine zO b.out ?_;refine zO b.out ?_;refine' eN (v:= .int .i64 (O:Int)) rfl (λW d=>?_) ?_
        ·go_simp;exact cp.out
        simp only[yQ,yU,yX,yY];refine zO b.out ?_;refine zO b.out ?_;refine zO b.out ?_;refine zO b.out ?_;refine zO b.out ?_;refine zO b.out ?_;refine zO b.out ?_;refine' eN (v:= .bool true) rfl (λW d=>?_) ?_
        ·go_simp
        simp only[yQ,yU,yX,yY];refine zO b.out ?_;refine zX b.out ?_;refine zX b.out ?_;refine zX b.out ?_;refine zX b.out ?_;refine zX b.out ?_;refine zX b.out ?_;refine' zW rfl (λW d=>jN rfl g (k* 11) (aj m) f rfl ((U.out W d).load X.out)) ?_;refine' zW rfl (λW d=>jN rfl i 0 o ob rfl (bS (G.out.below d).cells)) ?_;refine zZ ?_;refine(wN (aj m) o f ob _).mono ?_;rintro e P ⟨rfl,b1⟩;rw[ec.out];have T:Hid (af wr P):=(ak (Below.refl _ _)).trans b1;clear b1;refine⟨_,rfl,T.out,jO ?_⟩
        repeat refine zX b.out ?_
        refine ag ?_;have a4:Hid (af D P):=ab d.out T.out;have ac:Hid (aa P i (di o ob).toArray 130):=G.out.below T.out;have bx:Hid (∀q v,(di (aj m) f)[q]?=some v->P.cell? ((⟨g,k* 11,none⟩:Addr).add q)=some v):=(U.out _ T.out).load X.out;clear G d b U bb T;go_wp2_with fail
        exact⟨⟨k+1,true,o,ob,by omega,by go_num,rfl,a4.out,ac.out,a3.out,λ_=>bv.out trivial⟩,by simp[intOf];omega⟩
     ·have g7:((O:Int)==(x:Int))=false:=by rw[beq_eq_false_iff_ne];omega
      have a3:Hid (eQ C L x (k+1) fd ob):=Y.out.skip X.out (by rw[<-ea.out];exact a2);clear a2 Y;go_wp2_with fail
      refine yO (af wr) [1,2,3,4,5,6,7,8,9,10,11,12,13,14,15,16,17,18,19,20,21,22,23,24,25,26,27,28,29,30,31,32,33,34,35,36,37,38,0,39,0,40,41] (ak (Below.refl _ _)) ?_;refine zO b.out ?_;refine zO b.out ?_;refine zO b.out ?_;refine zO b.out ?_;refine zO b.out ?_;refine zO b.out ?_;refine zO b.out ?_;refine zO b.out ?_;refine zO b.out ?_;refine zO b.out ?_;refine zO b.out ?_;refine zO b.out ?_;refine zO b.out ?_;refine zO b.out ?_;refine zO b.out ?_;refine zO b.out ?_;refine zO b.out ?_;refine zO b.out ?_;refine zO b.out ?_;refine zO b.out ?_;refine' eN (v:= .int .i64 (O:Int)) rfl (λW d=>?_) ?_
      ·go_simp;exact cp.out
      simp only[yQ,yU,yX,yY];refine zO b.out ?_;refine zO b.out ?_;refine zO b.out ?_;refine zO b.out ?_;refine zO b.out ?_;refine zO b.out ?_;refine zO b.out ?_;refine' eN (v:= .bool false) rfl (λW d=>?_) ?_
      ·go_simp
      simp only[yQ,yU,yX,yY];refine zO b.out ?_;refine zJ rfl ?_;refine zJ rfl ?_;refine zJ rfl ?_;refine zJ rfl ?_;refine zJ rfl ?_;refine zJ rfl ?_;refine zJ rfl ?_;refine zJ rfl ?_;refine yV rfl (ak (Below.refl _ _)) ?_;refine zJ rfl ?_;refine zO b.out ?_;refine ag ?_;have a4:Hid (af D wr.drew):=ak d.out;have ac:Hid (aa wr.drew i (di o ob).toArray 130):=G.out.below (ak (Below.refl _ _));have bx:Hid (∀q v,(di (aj m) f)[q]?=some v->wr.drew.cell? ((⟨g,k* 11,none⟩:Addr).add q)=some v):=(U.out _ (ak (Below.refl _ _))).load X.out;clear G d b U bb;generalize wr.drew=P at*;go_wp2_with fail
      exact⟨⟨k+1,fd,o,ob,by omega,by go_num,rfl,a4.out,ac.out,a3.out,bv.out⟩,by simp[intOf];omega⟩
    ·have f7:k=len:=oO
     have kv:=eQ.is (by rw[a6.out];omega) d5.out a8 K f3.out (fd:=fd) (ob:=ob) (by
      have h:=Y.out;rw[f7,gt.out,ey.out,eu.out]at h
      exact h)
     obtain⟨rfl,rfl⟩:=kv;have cq:o=aj m:=bv.out rfl;subst cq;obtain⟨vv,cr⟩:∃vv:Nat->Nat,vv=λk=>(jd ob).getD k 0:=⟨_,rfl⟩;obtain⟨ww,cs⟩:∃ww:Nat->Nat,ww=λk=>(Ko (aj m) ob).getD k 0:=⟨_,rfl⟩;have f8:Hid (∀W,af wr W->∀k,k<4->W.cell? ⟨i,k,none⟩=some (.int .i64 ((vv k:Nat):Int))/\W.cell? ⟨i,4+k,none⟩=some (.int .i64 ((ww k:Nat):Int))):=by
      show∀W,_;intro W z k dn;rw[cr,cs];exact⟨tk (G.out.below z).cells dn,Hy (G.out.below z).cells dn⟩
     have cv:Hid (∀k,vv k<=4096/\ww k<=62):=by
      show∀k,_;intro k;obtain⟨M,V,Z⟩:=al.out.vb;obtain⟨k9,la⟩:=ob.Lw;have lc:=fp m;rw[cr,cs]
      match k with
      |0=>exact⟨by show ob.num<=_;omega,by show aj m<=_;omega⟩
      |1=>exact⟨by show ob.v1<=_;omega,by show ob.w1<=_;omega⟩
      |2=>exact⟨by show ob.v2<=_;omega,by show ob.w2<=_;omega⟩
      |3=>exact⟨by show 0<=4096;omega,by show 0<=62;omega⟩
      |k+4=>exact⟨by show 0<=4096;omega,by show 0<=62;omega⟩
     have f9:Hid (uq vv ww 4++(if ob.run≠0 then byF p a ob.run else[])=bB p a m ob):=by
      show _=_;rw[al.out.bits,cr,cs,Hk]
     clear cr cs Y bv;have i7:Hid (CS w wr J n C):=d7.out.below d.out;have ga:Hid (SR vB false wr a5 out.length co out):=f4.out.below d.out;have i8:Hid (aa wr i (di (aj m) ob).toArray 130):=G.out;subst f7;clear d G d7 f4 gx;go_wp2_with fail
     obtain⟨ds,rfl⟩:∃ds:World,ds=wr:=⟨_,rfl⟩;go_loopw [5,12] (λbf N wr=>∃(q:Nat) (t:List Bool) (bo:Option Addr) (bq:Nat),q<=4/\N= .int .i64 q/\bf= .slice bo t.length bq/\Hid (t=out++uq vv ww q)/\Hid (SR vB false wr bo t.length bq t)/\Hid (af ds wr)) (λ_ N _=>4-(intOf N).toNat)
     case atStart=>exact⟨0,out,a5,co,by omega,rfl,rfl,by show _=_;rw[show uq vv ww 0=[]from rfl,List.append_nil],ga.out,Below.refl _ _⟩
     case round=>
      clear ga;obtain⟨q,t,bo,bq,hq,rfl,rfl,b2,ed,z⟩:=hrel;have gb:Hid (t.length<=41000):=by
       show _<=_;rw[b2.out,List.length_append];have M:=CH (vv:=vv) (ww:=ww) (λk=>(cv.out k).2) q;have V:=d6.out;have Z:=ks.out;omega
      by_cases i9:q<4
      ·obtain⟨ap,cx⟩:∃ap,ap=vv q:=⟨_,rfl⟩;obtain⟨av,c2⟩:∃av,av=ww q:=⟨_,rfl⟩;have l0:ap<=4096:=by rw[cx];exact(cv.out q).1
       have jp:av<=62:=by rw[c2];exact(cv.out q).2
       have ef:Hid (out++uq vv ww (q+1)=t++aH ap av):=by show _=_;rw[b2.out,cx,c2,List.append_assoc];rfl
       have l1:(q:Int)<4:=oO;have b:Hid (∀W,af wr W->W.cell? ⟨i,q,none⟩=some (.int .i64 (ap:Int))/\W.cell? ⟨i,4+q,none⟩=some (.int .i64 (av:Int))):=by
        show∀W,_;intro W ad;rw[cx,c2];exact f8.out W (ab z.out ad) q i9
       clear cx c2 b2;go_wp2_with fail
       refine yO (af wr) [1,2,3,4,5,6,7,8,9,0,10,0,11,12,13,14] (ak (Below.refl _ _)) ?_;refine zO b.out ?_;refine zO b.out ?_;refine zO b.out ?_;refine zO b.out ?_;refine zO b.out ?_;refine zO b.out ?_;refine zO b.out ?_;refine zO b.out ?_;refine zO b.out ?_;refine zZ ?_;refine(sJ bo t.length bq t ap av _ (ed.out.below (ak (Below.refl _ _))) oO jp (by have:=gb.out;omega)).mono ?_;rintro e g8 ⟨li,rfl,gc,gd⟩;obtain⟨g9,ib,ih,rfl,eh⟩:=gc.parts;obtain rfl:ib=(t++aH ap av).length:=eh.hn;have ge:Hid (af wr g8):=(ak (Below.refl _ _)).trans gd;have gg:=Lib.hid eh;clear gc gd eh;rw[<-ef.out]at gg;rw[<-ef.out];generalize gY:out++uq vv ww (q+1)=u at*;have jr:=Lib.hid gY.symm;clear gY ef;refine⟨_,rfl,ge.out,jO ?_⟩;refine zO b.out ?_;refine zO b.out ?_;refine zO b.out ?_;refine zO b.out ?_;refine ag ?_;go_wp2_with fail
       exact⟨⟨q+1,u,g9,ih,by omega,by go_num,rfl,jr.out,gg.out,ab z.out ge.out⟩,by simp[intOf];omega⟩
      ·obtain rfl:q=4:=oO;have gi:Hid (∀W,af wr W->ai W i (di (aj m) ob)):=λW ad=>(i8.out.below (ab z.out ad)).cells;obtain⟨num,er⟩:∃x,x=ob.num:=⟨_,rfl⟩;obtain⟨s,B⟩:∃x,x=ob.at_:=⟨_,rfl⟩;obtain⟨y,H⟩:∃x,x=ob.mode:=⟨_,rfl⟩;obtain⟨run,b5⟩:∃x,x=ob.run:=⟨_,rfl⟩;have jv:Hid (∀W,af wr W->W.cell? ⟨i,0,none⟩=some (.int .i64 (num:Int))/\W.cell? ⟨i,9,none⟩=some (.int .i64 (s:Int))/\W.cell? ⟨i,10,none⟩=some (.int .i64 (y:Int))):=by
        show∀W,_;intro W ad;have h:=gi.out W ad;rw[er,B,H];exact⟨h.2 0 (by show 0<11;omega),h.2 9 (by show 9<11;omega),h.2 10 (by show 10<11;omega)⟩
       have gy:Hid ((num=31/\m<=2)↔run≠0):=by show _↔_;rw[er,b5];exact al.out.K7 K
       have gL:Hid (run≠0->s=a+run):=by show _->_;rw[B,b5];exact al.out.KS
       have c8:Hid (s<=n):=by show _<=_;rw[B,<-a6.out];exact al.out.Eb a8
       have es:Hid (y<5):=by show _<_;rw[H];exact al.out.mO K
       have gN:Hid (∃S,(t++byF p a run)++fB p (cB C p) S s y=E/\C s y<=S/\(t++byF p a run).length+C s y=E.length/\C s y<C a m):=by
        show∃S,_;have e1:t++byF p a run=out++bB p a m ob:=by
         have e2:byF p a run=(if ob.run≠0 then byF p a ob.run else[]):=by
          rw[b5];by_cases h:ob.run=0
          ·rw[if_neg (λe=>e h),h];rfl
          ·rw[if_pos h]
         rw[<-f9.out,b2.out,List.append_assoc,e2]
        have M:=hF.out;have V:=i2.out;have Z:=al.out.size_pos;unfold an.aG at V;obtain⟨S,rfl⟩:∃S,F=S+1:=⟨F-1,by omega⟩;refine⟨S,?_,?_,?_,?_⟩
        ·rw[e1,List.append_assoc,B,H,<-wZ a8 f3.out];exact cg.out
        ·rw[B,H];omega
        ·rw[e1,List.length_append,i3.out,B,H];have:=d6.out;omega
        ·rw[B,H];omega
       have j0:Hid (run<=2078):=by show _<=_;rw[b5];exact al.out.KT
       clear er B H b5 gi b2 cg hF f9 f8 cv;go_wp2_with fail
       obtain⟨dx,rfl⟩:∃dx:World,dx=wr:=⟨_,rfl⟩;go_loopw [5,13] (λbf N wr=>∃(r:Nat) (u:List Bool) (a0:Option Addr) (a1:Nat),a<=r/\r<=a+run/\N= .int .i64 r/\bf= .slice a0 u.length a1/\Hid (u=t++byF p a (r-a))/\Hid (SR vB false wr a0 u.length a1 u)/\Hid (af dx wr)) (λ_ N _=>a+run-(intOf N).toNat)
       case atStart=>exact⟨a,t,bo,bq,Nat.le_refl _,Nat.le_add_right _ _,rfl,rfl,by show _=_;rw[Nat.sub_self,show byF p a 0=[]from rfl,List.append_nil],ed.out,Below.refl _ _⟩
       case round=>
        clear ed;obtain⟨r,u,a0,a1,kb,hq,rfl,rfl,b3,c3,ad⟩:=hrel;obtain⟨ll,lm,l2⟩:=jv.out wr ad.out;have c4:Hid (CS w wr J n C):=i7.out.below (ab z.out ad.out);by_cases mb:r<a+run
        ·obtain⟨bd,ej⟩:=gy.out.2 oO;have ek:=gL.out oO;have kw:=c8.out;have ez:((num:Int)==31)=true:=by rw[beq_iff_eq];omega
         have e0:decide ((m:Int)<=2)=true:=by simp;omega
         have md:r<s:=oO;have me:(r:Int)<(n:Int):=oO;have el:=g1.out.below c4.out.B;have kc:=el.hn;obtain⟨ii,rfl,k0,bt⟩:=el.rd oO;have em:=bt r oO;obtain⟨xb,en⟩:∃xb,xb=l.getD r 0:=⟨_,rfl⟩;rw[<-en]at em;have mk:wr.cell? (ii.add r)=some (.int .u8 ((xb.toNat:Nat):Int)):=em;have ml:xb.toNat<256:=xb.toNat_lt;have kd:Hid (t++byF p a (r+1-a)=u++aH xb.toNat 8):=by
          show _=_;rw[Gx kb,b3.out,List.append_assoc,en,fo.out]
         have k1:Hid (u.length<=200000):=by
          show _<=_;rw[b3.out,List.length_append,oW];have M:=gb.out;have V:=j0.out;omega
         clear em en k0 bt el kc b3 bd ek kw;go_wp2_with(go_at_call 103;refine(sJ a0 u.length a1 u xb.toNat 8 _ c3.out oO oO (by have:=k1.out;omega)).mono ?_;rintro e ls ⟨lu,rfl,go,gq⟩;obtain⟨io,ip,it,rfl,eq⟩:=go.parts;obtain rfl:ip=(u++aH xb.toNat 8).length:=eq.hn;have kf:=Lib.hid gq;have km:=Lib.hid eq;clear go gq eq)
         go_simp;exact⟨⟨r+1,by omega,by omega,by omega,u++aH xb.toNat 8,io,it,⟨rfl,List.length_append.symm,rfl⟩,kd.out.symm,km.out,ab ad.out kf.out⟩,by simp[intOf];omega⟩
        ·have c5:r=a+run:=oO;obtain⟨S,dy,e9,d0,fb⟩:=gN.out;have fn:t++byF p a run=u:=by rw[b3.out,c5,Nat.add_sub_cancel_left]
         rw[fn]at dy d0;have d1:=Lib.hid dy;have d2:=Lib.hid e9;have d3:=Lib.hid d0;have d4:=Lib.hid fb;clear dy e9 d0 fb gN fn b3;by_cases bd:num=31
         ·have ez:((num:Int)==31)=true:=by rw[beq_iff_eq];omega
          by_cases ej:m<=2
          ·have ek:=gL.out (gy.out.1 ⟨bd,ej⟩);have e0:decide ((m:Int)<=2)=true:=by simp;omega
           obtain rfl:r=s:=oO;clear ek c5 bd ej;go_wp2_with fail
           exact⟨⟨r,y,S,u,a0,a1,c8.out,es.out,rfl,rfl,rfl,c3.out,c4.out,d1.out,d2.out,d3.out⟩,d4.out⟩
          ·have e0:decide ((m:Int)<=2)=false:=by simp;omega
           clear c5 bd;go_wp2_with fail
           exact⟨⟨s,y,S,u,a0,a1,c8.out,es.out,rfl,rfl,rfl,c3.out,c4.out,d1.out,d2.out,d3.out⟩,d4.out⟩
         ·have ez:((num:Int)==31)=false:=by rw[beq_eq_false_iff_ne];omega
          clear c5 bd;go_wp2_with fail
          exact⟨⟨s,y,S,u,a0,a1,c8.out,es.out,rfl,rfl,rfl,c3.out,c4.out,d1.out,d2.out,d3.out⟩,d4.out⟩
  ·obtain rfl:a=n:=oO;have kp:Hid (out=E):=by
    show _=_;have h:=cg.out;rw[yu (by rw[a6.out];exact Nat.le_refl _),List.append_nil]at h;exact h
   have iv:Hid (af w wr):=a7.out.B;clear cg hF d6 a7;go_wp2_with fail
   go_ret2
   exact RT.mk rfl (by rw[<-kp.out];exact dm.out.sg) iv.out
end
section
open Go.ChangeShapes Go.WideShapes Go.ChangeAt Go.RowKit
theorem EE {H:Type} {enc:TypeId×Value->H} {P:Program} (hl:laidOutB P=true) {W i:World} (hb:Below W.heap.size W i):
 ∀(e:List TypeId) (c:List Value) (a:List (DataW H)) (ps:List MemPlace),(∀f∈e,P.readableRec f=true/\f<P.types.size)->
  DataW.TrodAll enc P W 0 (λ_=>true) true e c a ps->(∀x∈ps,x.block<W.heap.size)->
  DataW.TrodAll enc P i 0 (λb=>decide (b<W.heap.size)) true e c a ps:=by
 intro e
 induction e with
 |nil=>
  intro c a ps _ h _;cases c<;>cases a<;>first|exact h|exact h.elim
 |cons f e m=>
  intro c a ps j h l;cases c with
  |nil=>cases a<;>exact h.elim
  |cons v c=>
   cases a with
   |nil=>exact h.elim
   |cons d a=>
    obtain⟨p,q,n,o,rfl⟩:=h;have k:=j f oS;exact⟨p,q,Below.trod hl k.1 k.2 n hb (λx g=>l x (by simp[g])),m c a q (λr s=>j r (by simp[s])) o (λx g=>l x (by simp[g])),rfl⟩
theorem Hp {H:Type} {enc:TypeId×Value->H} {P:Program} (hl:laidOutB P=true) {f:Func} {s:ChangeSpec} {W e:World} {args:Array Value} {a b:List (DataW H)} {o:List MemPlace} {B:TypeId}
 (hB:P.underlying B=some .bool) (m:f.resultTypes=#[B]) (n:s.vars=[]) (k:∀d∈f.params.toList,P.readableRec d=true/\d<P.types.size)
 (c:DataW.Whole enc P f.params.toList s.vars false W args.toList a b o)
 (hs:s.fn H (a++b)={results:=[.lit (.bool true)],args:=a}) (hb:Below W.heap.size W e):
 s.post enc P f false true false false W args (.bool true) e:=by
 have l:=c.lt;obtain⟨p,q,i,g,rfl,r,t⟩:=id c;refine⟨a,b,p++q,[],p,q,c,?_,?_,?_,hb.frame _,λh=>by cases h⟩
 ·rw[hs,m];exact trodAll_cons_mk (shut_bool hB _) trodAll_mk0
 ·rw[hs];exact EE hl hb _ _ _ _ k i (λx j=>l x (by simp[j]))
 ·rw[hs];rw[n]at g⊢;obtain⟨rfl,rfl⟩:=trodVars_none g;rfl
theorem Ju {w:World} {a:Addr} {v:Value} (h:w.cell? a=some v):a.block<w.heap.size:=by
 rcases Nat.lt_or_ge a.block w.heap.size with b|b
 ·exact b
 ·unfold World.cell? at h;rw[Array.getElem?_eq_none b]at h;cases h
theorem Lf {a:Int} (h:(Lit.int .u8 a).wf=true):0<=a/\a<=255:=by
 simpa[Lit.wf,IntKind.min,IntKind.max,IntKind.signed,IntKind.bits]using h
theorem SR.Lz {α:Type} {f:α->Value} {d:α} (W:World):SR f d W none 0 0 []:=⟨rfl,Nat.le_refl _,Nat.zero_le _,RG.dD _ _⟩
theorem Is {H:Type} {enc:TypeId×Value->H} {W:World} {b0:Nat} {r:Reach} {v:Value} {d:DataW H} {p:List MemPlace}
 (k:Value.okWide Tryz.prog W r b0 22 v) (h:DataW.Trod enc Tryz.prog W 0 (λ_=>true) true 22 v d p):∃A n c l,v= .slice A n c/\SR vU 0 W A n c l:=by
 obtain⟨x,g,w,rfl⟩:=okWide_slice Tryz.underlying22 k;obtain⟨B,m⟩:=h;rcases open_ints Tryz.underlying22 Tryz.underlying5 oK m with⟨e,_⟩|⟨a,len,cap,b,e,_,hl,o,q,y,i,u⟩
 ·simp[Value.cells]at e;obtain⟨rfl,rfl,rfl⟩:=e;exact⟨none,0,0,[],rfl,SR.Lz _⟩
 ·simp[Value.cells]at e;obtain⟨rfl,rfl,rfl⟩:=e;simp only[if_true]at q;refine⟨some a,g,w,(b.take g).map (λz=>UInt8.ofNat z.toNat),rfl,⟨by simp;omega,hl,o,λhn=>?_⟩⟩;simp only[List.length_map,List.length_take]at hn;have s:=i 0 oO;refine⟨a,rfl,by have:=Ju s;rw[aV]at this;exact this,λj t=>?_⟩;simp only[List.length_map,List.length_take]at t;rw[i j oO];have f:j<b.length:=oO;have e1:b.getD j 0=b[j]:=by simp[List.getD,f]
  have e2:((b.take g).map (λz=>UInt8.ofNat z.toNat)).getD j 0=UInt8.ofNat (b[j]).toNat:=by
   rw[List.getD_eq_getElem?_getD,List.getElem?_map,List.getElem?_take_of_lt oO,List.getElem?_eq_getElem f];rfl
  rw[e1,e2];have hb:=Lf (u _ (List.getElem_mem f));show some (Value.int .u8 b[j])=some (Value.int .u8 _);rw[UInt8.toNat_ofNat',Nat.mod_eq_of_lt oO,Int.toNat_of_nonneg hb.1]
theorem LA:ownKnob Tryz.prog.godebug=none:=oK
theorem Lc:laidOutB Tryz.prog=true:=oK
theorem He {H:Type} {enc:TypeId×Value->H} {W:World} {b0:Nat} {r:Reach} {v:Value} {d:DataW H} {p:List MemPlace}
 (b:Value.okWide Tryz.prog W r b0 24 v) (h:DataW.Trod enc Tryz.prog W 0 (λ_=>true) true 24 v d p):∃(x:Int) (y:Bool) (z:Int),v= .agg #[.int .i64 x,.bool y,.int .i64 z]:=by
 obtain⟨v0,v1,g,i,j,k,n,rfl,-,-,c,e,f⟩:=Joins.open_agg3 Tryz.underlying24 oK oK b h;obtain⟨x,a,-,-⟩:=DataW.trod_int Tryz.underlying3 c;obtain⟨y,e1,-⟩:=DataW.trod_bool Tryz.underlying4 e;obtain⟨z,e2,-,-⟩:=DataW.trod_int Tryz.underlying3 f;injection a with a;injection e1 with e1;injection e2 with e2;subst a e1 e2;exact⟨x,y,z,rfl⟩
end
theorem cM {a b:Bool} (h:a=true) (g:b=true):(a&&b)=true:=by rw[h,g];rfl
theorem Jy:laidOutB Tryz.prog=true:=oK
theorem xX:mapsRowed Tryz.prog=true:=oK
theorem IC:(Tryz.prog.stops==[])=true:=oK
theorem yL:(Tryz.prog.stopKnobs==[])=true:=oK
theorem xk:Tryz.prog.stopsHeard=true:=oK
theorem AY:Tryz.prog.mayEnter=true:=oK
end Go.Proofs.YtmnlkganmgcpbaaGreatDoor
