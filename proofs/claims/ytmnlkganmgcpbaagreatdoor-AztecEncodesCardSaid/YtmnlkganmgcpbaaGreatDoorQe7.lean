import Derived.Test.YtmnlkganmgcpbaaGreatDoorQe6
import Derived.Lib.SlBytesConst
import Derived.Laws.Closers25
set_option maxRecDepth 100000
set_option maxHeartbeats 4000000
set_option linter.unusedVariables false
set_option linter.unusedSectionVars false
set_option linter.unusedSimpArgs false
namespace Go.Proofs.YtmnlkganmgcpbaaGreatDoor
section
open Go.RowKit Go.WideMaps Go.Maps
def bA (l:List UInt8):ByteArray:=⟨l.toArray⟩
theorem iS (l:List UInt8):(bA l).size=l.length:=by show l.toArray.size=_;simp
theorem JB (l:List UInt8) (a:Nat) (b:ByteArray):preB (bA l) a b=Lib.hasPrefix (l.drop a) b.data.toList:=by
 unfold preB;congr 1;rw[ByteArray.data_extract,Array.toList_extract,List.extract_eq_take_drop,iS];show(l.drop a).take (l.length-a)=_;rw[List.take_of_length_le (by rw[List.length_drop];omega)]
theorem Ch:∀m,m<5->∀n,n<32->cf m n≠0->n<2^aj m:=of_decide_eq_true oK
theorem wZ {p:ByteArray} {c:Nat->Nat->Option an} {f a m:Nat} {b:an} (d:a<p.size) (h:c a m=some b):fB p c (f+1) a m=bB p a m b++fB p c f b.at_ b.mode:=by
 show(if a<p.size then(match c a m with|some b=>bB p a m b++fB p c f b.at_ b.mode|none=>[])else[])=_;rw[if_pos d,h]
theorem yu {p:ByteArray} {b:Nat->Nat->Option an} {f a m:Nat} (c:p.size<=a):fB p b f a m=[]:=by
 cases f with
 |zero=>rfl
 |succ f=>
  show(if a<p.size then _ else[])=[];rw[if_neg oO]
theorem cj.xL {p:ByteArray} {C:Nat->Nat->Nat} (f:p.size<=4096) (h:cj p C) (a m:Nat) (c:a<p.size) (d:m<5):∃b,cB C p a m=some b/\Atom p a m b/\b.aG C=C a m/\(bB p a m b).length=b.size:=by
 obtain⟨b,g,e,i⟩:=h.step f a m c d;exact⟨b,g,wU c e,i.eq.symm,(CX c d 32 (Nat.le_refl _) e).ln⟩
theorem Hr {p:ByteArray} {C:Nat->Nat->Nat} (g:p.size<=4096) (h:cj p C):∀f a m,m<5->C a m<=f->(fB p (cB C p) f a m).length=C a m:=by
 intro f
 induction f with
 |zero=>
  intro a m b i;have:C a m=0:=oO;rw[this];rfl
 |succ f j=>
  intro a m b i;by_cases c:a<p.size
  ·obtain⟨n,k,d,e,l⟩:=h.xL g a m c b;have o:=d.size_pos;rw[wZ c k,List.length_append,l,j _ _ (d.mO b) (by unfold an.aG at e;omega)];exact e
  ·rw[yu oO,h.zero a m oO];rfl
theorem qj {p:ByteArray} {C:Nat->Nat->Nat} (a:p.size<=4096) (h:cj p C):(pC p C).length=C 0 0:=Hr a h _ 0 0 oO (Nat.le_refl _)
theorem ui {l:List UInt8} {C:Nat->Nat->Nat} (c:l.length<=2078) (h:jP (bA l) C):C 0 0<=8* l.length+21:=by
 have hs:=iS l;have b:cf 0 31=4:=oK;have w0:aj 0=5:=rfl;by_cases d:0<l.length
 ·by_cases e:l.length<=31
  ·have a:=h.le 0 0 oO oO _ (Atom.short 31 l.length oO b d e oO);have f:C (0+l.length) 0=0:=h.zero _ _ oO;have g:C 0 0<=aj 0+5+8* l.length+C (0+l.length) 0:=a;omega
  ·have a:=h.le 0 0 oO oO _ (Atom.long 31 l.length oO b oO c oO);have f:C (0+l.length) 0=0:=h.zero _ _ oO;have g:C 0 0<=aj 0+16+8* l.length+C (0+l.length) 0:=a;omega
 ·rw[h.zero 0 0 oO];omega
theorem SR.Lt {α:Type} {f:α->Value} {d:α} (W:World) (xs:List α) (a:TypeId) (b:Nat×Nat) (n:Nat) (hn:n=xs.length) (c:n<=maxLen):SR f d (W.alloc (.cells (xs.map f).toArray a b)) (some ⟨W.heap.size,0,none⟩) n n xs:=by
 refine⟨hn,Nat.le_refl _,c,λ_=>⟨_,rfl,by simp,λj e=>?_⟩⟩;rw[add_plain,Nat.zero_add,World.cell?_alloc_mark];simp[List.getD,e]
theorem Al {P:Program} {c:Array Oper} {d:List Oper} {b:Oper} {a:Act} {Q:Exit->Act->World->Prop} {w:World} {v:Value} (i:Region.wanted b (yielded c a.tmps)=true) (e:(execOp a.eval b).run P w= .ok (.value v) w) (f:wpList P c Q d (a.put b.dst v) w):wpList P c Q (b::d) a w:=by
 refine wpList_step λK g=>?_;simp only[i,if_true];unfold Oper.wp;rw[e];exact g _ _ f
theorem Eh (A:Option Addr) (n c m:Nat) (b:List Bool) (w:World) (hb:SR vB false w A n c b) (bb:1<=m) (bd:m<=11) (hn:n<=1048576):
 Calls Tryz.prog 104 #[.slice A n c,.int .i64 ((m:Int)+1)] w λe w'=>∃v,e= .returned (.tuple #[v,.int .i64 0])/\SG vN 0 w' v (az b (m+1))/\Below w.heap.size w w':=by
 obtain⟨F,G,J,K,L⟩:=info_parts dd;have am:=Lib.hid hb;have g:Hid (n=b.length):=hb.hn;have be:decide ((m:Int)+1<2)=false:=by simp;omega
 have bi:decide ((12:Int)<(m:Int)+1)=false:=by simp;omega
 have bf:decide ((1048576:Int)<(n:Int))=false:=by simp;omega
 clear hb;go_enter Tryz.func104,Tryz.ntmps104;go_wp2;go_loopw [6,7] (λav W wr=>∃(k f:Nat) (a:List Nat),W= .int .i64 k/\k<=n+12/\Hid (OG vN 3 w wr av a)/\Hid (a.length<=k)/\Hid (a++stuffFrom b (m+1) f k=az b (m+1))/\Hid (n<=f+k)) (λ_ W _=>n+12-(intOf W).toNat)
 case atStart=>exact⟨0,b.length,[],rfl,by omega,OG.start _ _,Nat.le_refl _,rfl,by show _<=_;rw[g.out];omega⟩
 case round=>
  obtain⟨k,f,a,rfl,a7,Y,B,C,hF⟩:=hrel;by_cases a5:k<n
  ·go_wp2;obtain⟨Z,rfl⟩:∃Z:World,Z=wr:=⟨_,rfl⟩;go_loopw [8,9] (λvv ac wr=>∃j x:Nat,j<=m/\x<=4096/\ac= .int .i64 ((k:Int)+(j:Int))/\vv= .int .i64 x/\Hid (af Z wr)/\Hid (x=sfV b k j)) (λ_ ac _=>k+m-(intOf ac).toNat)
   case atStart=>exact⟨0,0,Nat.zero_le _,by omega,by simp,rfl,Below.refl _ _,rfl⟩
   case round=>
    obtain⟨j,x,a0,a1,rfl,rfl,P,Q⟩:=hrel;have i:=Lib.hid (Y.out.below P.out);by_cases a6:j<m
    ·have ap:=mQ b (k+j);have H:Hid (2* x+dO b (k+j)=sfV b k (j+1)):=by
      show _=_;rw[Q.out];rfl
     have D:2* x+dO b (k+j)<=4096:=by
      rw[H.out];have:=An b k (j+1);have:=kZ (s:=j+1) oO;omega
     by_cases M:k+j<n
     ·obtain⟨a2,rfl,_,N⟩:=(am.out.below i.out.B).rd (by rw[<-g.out];omega);have z:=N (k+j) (by rw[<-g.out];exact M);have l:Hid (dO b (k+j)=if b.getD (k+j) false then 1 else 0):=by
       show _=_;unfold dO;cases hq:b.getD (k+j) false with
       |true=>rw[if_neg oS];rfl
       |false=>rw[if_pos ⟨by rw[<-g.out];exact M,rfl⟩];rfl
      clear N;generalize b.getD (k+j) false=y at*;have ad:decide ((n:Int)<=(k:Int)+(j:Int))=false:=by simp;omega
      have U:Hid (2* x+(if y then 1 else 0)=sfV b k (j+1)):=by show _=_;rw[<-H.out,l.out]
      rw[l.out]at D;clear l H ap;cases y with
      |true=>
       simp only[if_true]at D;go_wp2;exact⟨⟨j+1,2* x+1,by omega,D,by go_num,by go_num,P.out,U.out⟩,by simp[intOf];omega⟩
      |false=>
       go_wp2;exact⟨⟨j+1,2* x,by omega,by simpa using D,by go_num,by go_num,P.out,U.out⟩,by simp[intOf];omega⟩
     ·have ad:decide ((n:Int)<=(k:Int)+(j:Int))=true:=by simp;omega
      have l:Hid (dO b (k+j)=1):=by
       show _=_;unfold dO;rw[if_neg (by rw[<-g.out];omega)]
      have U:Hid (2* x+1=sfV b k (j+1)):=by show _=_;rw[<-H.out,l.out]
      rw[l.out]at D;clear l H ap;go_wp2;exact⟨⟨j+1,2* x+1,by omega,D,by go_num,by go_num,P.out,U.out⟩,by simp[intOf];omega⟩
    ·obtain rfl:j=m:=oO;have O:Hid (∃p,stuffFrom b (j+1) f k=(eV b (j+1) k).1::stuffFrom b (j+1) p (eV b (j+1) k).2/\b.length<=p+(eV b (j+1) k).2):=tL b (j+1) f k oO (by rw[<-g.out];exact a5) (by rw[<-g.out];exact hF.out);have r:Hid (a.length<=1048577):=by have:=B.out;show _<=_;omega
     by_cases al:x=0
     ·subst al;have t:Hid (eV b (j+1) k=(1,k+j)):=by
       show _=_;unfold eV;rw[Nat.add_sub_cancel,<-Q.out,if_pos rfl]
      clear a1 a0 a6;go_wp2_with(at_builtin;refine aD (f:=vN) (d:=0) mY rfl _ _ _ rfl w.heap.size 3 F _ 8 Tryz.underlying64 G J K L rfl _ a.length a rfl ((ah i.out.O (Below.refl _ _)).alloc _) (some ⟨wr.heap.size,0,none⟩) 1 1 [1] rfl rfl (RG.one _ _ _ _ rfl) (by unfold maxLen;have:=r.out;omega) (by have:=r.out;omega) (by have:=i.out.B.size;simp;omega) ?_;intro S T o hg;have u:=Lib.hid (i.out.grow (ar _ _) o hg);clear o hg)
      obtain⟨p,e1,e2⟩:=O.out;rw[t.out]at e1 e2;refine⟨⟨k+j,p,a++[1],by go_num,by omega,u.out,by rw[List.length_append];have:=B.out;show _+1<=_;omega,by rw[List.append_assoc];have h:=C.out;rw[e1]at h;exact h,by show n<=_;rw[g.out];exact e2⟩,?_⟩;simp[intOf];omega
     ·have a8:((x:Int)==0)=false:=by rw[beq_eq_false_iff_ne];omega
      have V:=yq (j:=j) oO;by_cases z:x=2^j-1
      ·have a3:((x:Int)==wrap64 (wrap64 (2^j)-1))=true:=by rw[V,z];simp
       have t:Hid (eV b (j+1) k=(2* x,k+j)):=by
        show _=_;unfold eV;rw[Nat.add_sub_cancel,<-Q.out,if_neg al,if_pos z]
       obtain⟨X,q⟩:∃X,X=2* x:=⟨_,rfl⟩;have e2:2* (x:Int)=(X:Int):=oO;rw[<-q]at t;clear V z q;go_wp2_with(at_builtin;refine aD (f:=vN) (d:=0) mY rfl _ _ _ rfl w.heap.size 3 F _ 8 Tryz.underlying64 G J K L rfl _ a.length a rfl ((ah i.out.O (Below.refl _ _)).alloc _) (some ⟨wr.heap.size,0,none⟩) 1 1 [X] rfl rfl (RG.one _ _ _ _ rfl) (by unfold maxLen;have:=r.out;omega) (by have:=r.out;omega) (by have:=i.out.B.size;simp;omega) ?_;intro S T o hg;have u:=Lib.hid (i.out.grow (ar _ _) o hg);clear o hg)
       obtain⟨p,e1,e3⟩:=O.out;rw[t.out]at e1 e3;refine⟨⟨k+j,p,a++[X],by go_num,by omega,u.out,by rw[List.length_append];have:=B.out;show _+1<=_;omega,by rw[List.append_assoc];have h:=C.out;rw[e1]at h;exact h,by show n<=_;rw[g.out];exact e3⟩,?_⟩;simp[intOf];omega
      ·have a3:((x:Int)==wrap64 (wrap64 (2^j)-1))=false:=by rw[V,beq_eq_false_iff_ne];omega
       have E:Hid (eV b (j+1) k=(2* x+dO b (k+j),k+j+1)):=by
        show _=_;unfold eV;rw[Nat.add_sub_cancel,<-Q.out,if_neg al,if_neg z];rfl
       clear V z;have a9:(k:Int)+((j:Int)+1)-1=(k:Int)+(j:Int):=oO;by_cases M:k+j<n
       ·obtain⟨a2,rfl,_,N⟩:=(am.out.below i.out.B).rd (by rw[<-g.out];omega);have z:=N (k+j) (by rw[<-g.out];exact M);have l:Hid (dO b (k+j)=if b.getD (k+j) false then 1 else 0):=by
         show _=_;unfold dO;cases hq:b.getD (k+j) false with
         |true=>rw[if_neg oS];rfl
         |false=>rw[if_pos ⟨by rw[<-g.out];exact M,rfl⟩];rfl
        clear N;generalize b.getD (k+j) false=y at*;have ad:decide ((n:Int)<=(k:Int)+(j:Int))=false:=by simp;omega
        cases y with
        |true=>
         obtain⟨X,q⟩:∃X,X=2* x+1:=⟨_,rfl⟩;have e2:2* (x:Int)+1=(X:Int):=oO;have t:Hid (eV b (j+1) k=(X,k+j+1)):=by show _=_;rw[E.out,l.out,q];rfl
         clear q E l;go_wp2_with(at_builtin;refine aD (f:=vN) (d:=0) mY rfl _ _ _ rfl w.heap.size 3 F _ 8 Tryz.underlying64 G J K L rfl _ a.length a rfl ((ah i.out.O (Below.refl _ _)).alloc _) (some ⟨wr.heap.size,0,none⟩) 1 1 [X] rfl rfl (RG.one _ _ _ _ rfl) (by unfold maxLen;have:=r.out;omega) (by have:=r.out;omega) (by have:=i.out.B.size;simp;omega) ?_;intro S T o hg;have u:=Lib.hid (i.out.grow (ar _ _) o hg);clear o hg)
         obtain⟨p,e1,e3⟩:=O.out;rw[t.out]at e1 e3;refine⟨⟨k+j+1,p,a++[X],by go_num,by omega,u.out,by rw[List.length_append];have:=B.out;show _+1<=_;omega,by rw[List.append_assoc];have h:=C.out;rw[e1]at h;exact h,by show n<=_;rw[g.out];exact e3⟩,?_⟩;simp[intOf];omega
        |false=>
         obtain⟨X,q⟩:∃X,X=2* x:=⟨_,rfl⟩;have e2:2* (x:Int)=(X:Int):=oO;have t:Hid (eV b (j+1) k=(X,k+j+1)):=by show _=_;rw[E.out,l.out,q];rfl
         clear q E l;go_wp2_with(at_builtin;refine aD (f:=vN) (d:=0) mY rfl _ _ _ rfl w.heap.size 3 F _ 8 Tryz.underlying64 G J K L rfl _ a.length a rfl ((ah i.out.O (Below.refl _ _)).alloc _) (some ⟨wr.heap.size,0,none⟩) 1 1 [X] rfl rfl (RG.one _ _ _ _ rfl) (by unfold maxLen;have:=r.out;omega) (by have:=r.out;omega) (by have:=i.out.B.size;simp;omega) ?_;intro S T o hg;have u:=Lib.hid (i.out.grow (ar _ _) o hg);clear o hg)
         obtain⟨p,e1,e3⟩:=O.out;rw[t.out]at e1 e3;refine⟨⟨k+j+1,p,a++[X],by go_num,by omega,u.out,by rw[List.length_append];have:=B.out;show _+1<=_;omega,by rw[List.append_assoc];have h:=C.out;rw[e1]at h;exact h,by show n<=_;rw[g.out];exact e3⟩,?_⟩;simp[intOf];omega
       ·have ad:decide ((n:Int)<=(k:Int)+(j:Int))=true:=by simp;omega
        have l:Hid (dO b (k+j)=1):=by
         show _=_;unfold dO;rw[if_neg (by rw[<-g.out];omega)]
        obtain⟨X,q⟩:∃X,X=2* x+1:=⟨_,rfl⟩;have e2:2* (x:Int)+1=(X:Int):=oO;have t:Hid (eV b (j+1) k=(X,k+j+1)):=by show _=_;rw[E.out,l.out,q]
        clear q E l;go_wp2_with(at_builtin;refine aD (f:=vN) (d:=0) mY rfl _ _ _ rfl w.heap.size 3 F _ 8 Tryz.underlying64 G J K L rfl _ a.length a rfl ((ah i.out.O (Below.refl _ _)).alloc _) (some ⟨wr.heap.size,0,none⟩) 1 1 [X] rfl rfl (RG.one _ _ _ _ rfl) (by unfold maxLen;have:=r.out;omega) (by have:=r.out;omega) (by have:=i.out.B.size;simp;omega) ?_;intro S T o hg;have u:=Lib.hid (i.out.grow (ar _ _) o hg);clear o hg)
        obtain⟨p,e1,e3⟩:=O.out;rw[t.out]at e1 e3;refine⟨⟨k+j+1,p,a++[X],by go_num,by omega,u.out,by rw[List.length_append];have:=B.out;show _+1<=_;omega,by rw[List.append_assoc];have h:=C.out;rw[e1]at h;exact h,by show n<=_;rw[g.out];exact e3⟩,?_⟩;simp[intOf];omega
  ·have a4:Hid (a=az b (m+1)):=by
    have h:=C.out;rw[rB b (m+1) f k (by rw[<-g.out];omega),List.append_nil]at h;exact h
   go_wp2;go_ret2
   refine⟨_,rfl,?_,Y.out.B⟩;rw[<-a4.out];exact Y.out.sg
theorem DG (A:Option Addr) (n c:Nat) (size:Int) (b:List Bool) (w:World) (hb:SR vB false w A n c b):
 Calls Tryz.prog 104 #[.slice A n c,.int .i64 size] w (RT vN 0 w (dr b size)):=by
 have hn:n=b.length:=hb.hn;have k:n<=9223372036854775807:=by have:=hb.hm;have:=hb.hc;unfold maxLen at*;omega
 by_cases f:size<2
 ·have a:Hid (dr b size=([],3)):=by show _=_;unfold dr;rw[if_pos (.inl f)]
  clear hb hn;go_enter Tryz.func104,Tryz.ntmps104;go_wp2;go_ret2
  exact RT.mk a.out (SG.dD _) (Below.refl _ _)
 by_cases g:12<size
 ·have a:Hid (dr b size=([],3)):=by show _=_;unfold dr;rw[if_pos (.inr g)]
  clear hb hn;go_enter Tryz.func104,Tryz.ntmps104;go_wp2;go_ret2
  exact RT.mk a.out (SG.dD _) (Below.refl _ _)
 by_cases i:n<=1048576
 ·obtain⟨d,e⟩:∃d:Nat,size=(d:Int)+1:=⟨size.toNat-1,by omega⟩;have a:dr b size=(az b (d+1),0):=by
   unfold dr;rw[if_neg oO,if_neg oO,e];rfl
  rw[a,e];exact Eh A n c d b w hb oO oO i
 ·have a:Hid (dr b size=([],4)):=by show _=_;unfold dr;rw[if_neg oO,if_pos oO]
  have j:decide ((1048576:Int)<(n:Int))=true:=by simp;omega
  clear hb hn;go_enter Tryz.func104,Tryz.ntmps104;go_wp2;go_ret2
  exact RT.mk a.out (SG.dD _) (Below.refl _ _)
theorem sJ (A:Option Addr) (L c:Nat) (b:List Bool) (v n:Nat) (w:World) (hb:SR vB false w A L c b) (E:v<=1000000000000) (hn:n<=62) (hl:L+n<=1048576):
 Calls Tryz.prog 103 #[.slice A L c,.int .i64 (v:Int),.int .i64 (n:Int)] w (RT vB false w (b++aH v n,0)):=by
 obtain⟨p,r,x,z,B⟩:=info_parts fe;have e:=Lib.hid hb;have P:decide ((n:Int)<0)=false:=by simp
 have Q:decide ((62:Int)<(n:Int))=false:=by simp;omega
 have S:decide (1048576-(n:Int)<(L:Int))=false:=by simp;omega
 clear hb;go_enter Tryz.func103,Tryz.ntmps103;go_wp2_with(at_builtin;refine aD (f:=vB) (d:=false) jS rfl _ _ _ rfl w.heap.size 4 p _ 1 Tryz.underlying26 r x z B rfl _ 0 [] rfl (World.ownsRow_nil _ _ _ _) A L c b rfl e.out.hn e.out.rd oM oO (Nat.le_refl _) ?_;intro F s a hg;have J:Hid (Below w.heap.size w s):=(Below.refl _ _).grown hg (Nat.le_refl _) (λq hq=>by cases hq);have K:Hid (s.ownsRow w.heap.size 4 1 F b.length (b.map vB)):=(by have h:=a;rw[Nat.zero_add,e.out.hn]at h;exact h);clear a hg)
 go_loopw [8,9] (λG g wr=>∃(k:Nat) (j:Int),k<=n/\g= .int .i64 j/\Hid (j=(n:Int)-1-k)/\Hid (Below w.heap.size w wr)/\Hid (wr.ownsRow w.heap.size 4 1 G (b++lowF v n k).length ((b++lowF v n k).map vB))) (λ_ g _=>(intOf g+1).toNat)
 case atStart=>exact⟨0,_,Nat.zero_le _,rfl,by show _=_;omega,J.out,by show World.ownsRow _ _ _ _ _ _ _;rw[show lowF v n 0=[]from rfl,List.append_nil];exact K.out⟩
 case round=>
  obtain⟨k,j,T,rfl,t,l,m⟩:=hrel;by_cases U:k<n
  ·obtain⟨i,C⟩:∃i,i=n-1-k:=⟨_,rfl⟩;obtain rfl:j=(i:Int):=by have:=t.out;omega
   have u:=Lib.hid C;have V:i<=61:=oO;clear C;have X:=yf v i E;have M:Hid (lowF v n (k+1)=lowF v n k++[fP v i]):=by show _=_;rw[u.out];rfl
   have D:Hid ((b++lowF v n k).length<=100000062):=by show _<=_;rw[List.length_append,oR,<-e.out.hn];omega
   generalize fP v i=y at*;have o:Hid (w.heap.size<=wr.heap.size):=l.out.size;go_wp2_with(at_builtin;refine aD (f:=vB) (d:=false) jS rfl _ _ _ rfl w.heap.size 4 p _ 1 Tryz.underlying26 r x z B rfl _ _ (b++lowF v n k) rfl (pa m.out _) (some ⟨wr.heap.size,0,none⟩) 1 1 [y] rfl rfl (RG.one _ _ _ _ rfl) (by unfold maxLen;have:=D.out;omega) (by have:=D.out;omega) (by have:=o.out;simp;omega) ?_;intro v6 H a hg;have N:Hid (Below w.heap.size w H):=((l.out.alloc o.out _).grown hg (by have:=o.out;simp;omega) (λq hq=>(m.out.lt q hq).1));have O:=Lib.hid a;clear a hg)
   exact⟨⟨k+1,_,by omega,rfl,by have:=u.out;show _=_;omega,N.out,by
    show World.ownsRow _ _ _ _ _ _ _;rw[M.out,<-List.append_assoc];have e1:(b++lowF v n k++[y]).length=(b++lowF v n k).length+1:=List.length_append
    rw[e1];exact O.out⟩,by simp[intOf]⟩
  ·obtain rfl:k=n:=oO;have W:decide ((0:Int)<=j)=false:=by have:=t.out;simp;omega
   go_wp2;go_ret2
   exact RT.mk rfl (SG.bU m.out) l.out
def fc (m v:Nat):Int:=if cf m v=2 then((modeF m v:Nat):Int)else-1
def fA (m v:Nat):Int:=if cf m v=3 then((modeF m v:Nat):Int)else-1
def dw (m v:Nat):ByteArray:=if cf m v=1 then cW m v else ByteArray.empty
theorem D1 (m:Nat) (w:World):Calls Tryz.prog 140 #[.int .i64 (m:Int)] w λe w'=>e= .returned (.int .i64 ((aj m:Nat):Int))/\w'=w:=by
 by_cases h:m=4
 ·subst h;go_enter Tryz.func140,Tryz.ntmps140;go_wp2;go_ret;exact⟨rfl,rfl⟩
 ·have z:((m:Int)==4)=false:=by rw[beq_eq_false_iff_ne];omega
  have a:Hid (aj m=5):=by show _=_;unfold aj;rw[if_neg h]
  clear h;go_enter Tryz.func140,Tryz.ntmps140;go_wp2;go_ret;rw[a.out];exact⟨rfl,rfl⟩
theorem zp:∀v,v<32->v≠28->v≠29->v≠30->fc 0 v=-1:=of_decide_eq_true oK
theorem xu:fc 0 28=1:=oK
theorem xa:fc 0 29=2:=oK
theorem xB:fc 0 30=4:=oK
theorem Iv (v:Nat) (d:v<32) (w:World):Calls Tryz.prog 143 #[.int .i64 0,.int .i64 (v:Int)] w λe w'=>e= .returned (.int .i64 (fc 0 v))/\w'=w:=by
 by_cases a:v=28
 ·subst a;go_enter Tryz.func143,Tryz.ntmps143;go_wp2;go_ret;rw[xu];exact⟨rfl,rfl⟩
 by_cases b:v=29
 ·subst b;go_enter Tryz.func143,Tryz.ntmps143;go_wp2;go_ret;rw[xa];exact⟨rfl,rfl⟩
 by_cases c:v=30
 ·subst c;go_enter Tryz.func143,Tryz.ntmps143;go_wp2;go_ret;rw[xB];exact⟨rfl,rfl⟩
 have f:=Lib.hid (zp v d a b c);have g:((v:Int)==28)=false:=by rw[beq_eq_false_iff_ne];omega
 have i:((v:Int)==29)=false:=by rw[beq_eq_false_iff_ne];omega
 have j:((v:Int)==30)=false:=by rw[beq_eq_false_iff_ne];omega
 clear a b c;go_enter Tryz.func143,Tryz.ntmps143;go_wp2;go_ret;rw[f.out];exact⟨rfl,rfl⟩
theorem zC:∀v,v<32->v≠29->v≠30->fc 1 v=-1:=of_decide_eq_true oK
theorem xl:fc 1 29=2:=oK
theorem xc:fc 1 30=4:=oK
theorem Ir (v:Nat) (c:v<32) (w:World):Calls Tryz.prog 143 #[.int .i64 1,.int .i64 (v:Int)] w λe w'=>e= .returned (.int .i64 (fc 1 v))/\w'=w:=by
 by_cases a:v=29
 ·subst a;go_enter Tryz.func143,Tryz.ntmps143;go_wp2;go_ret;rw[xl];exact⟨rfl,rfl⟩
 by_cases b:v=30
 ·subst b;go_enter Tryz.func143,Tryz.ntmps143;go_wp2;go_ret;rw[xc];exact⟨rfl,rfl⟩
 have d:=Lib.hid (zC v c a b);have f:((v:Int)==29)=false:=by rw[beq_eq_false_iff_ne];omega
 have g:((v:Int)==30)=false:=by rw[beq_eq_false_iff_ne];omega
 clear a b;go_enter Tryz.func143,Tryz.ntmps143;go_wp2;go_ret;rw[d.out];exact⟨rfl,rfl⟩
theorem yH:∀v,v<32->v≠28->v≠29->v≠30->fc 2 v=-1:=of_decide_eq_true oK
theorem xj:fc 2 28=1:=oK
theorem xi:fc 2 29=0:=oK
theorem xt:fc 2 30=3:=oK
theorem H4 (v:Nat) (d:v<32) (w:World):Calls Tryz.prog 143 #[.int .i64 2,.int .i64 (v:Int)] w λe w'=>e= .returned (.int .i64 (fc 2 v))/\w'=w:=by
 by_cases a:v=28
 ·subst a;go_enter Tryz.func143,Tryz.ntmps143;go_wp2;go_ret;rw[xj];exact⟨rfl,rfl⟩
 by_cases b:v=29
 ·subst b;go_enter Tryz.func143,Tryz.ntmps143;go_wp2;go_ret;rw[xi];exact⟨rfl,rfl⟩
 by_cases c:v=30
 ·subst c;go_enter Tryz.func143,Tryz.ntmps143;go_wp2;go_ret;rw[xt];exact⟨rfl,rfl⟩
 have f:=Lib.hid (yH v d a b c);have g:((v:Int)==28)=false:=by rw[beq_eq_false_iff_ne];omega
 have i:((v:Int)==29)=false:=by rw[beq_eq_false_iff_ne];omega
 have j:((v:Int)==30)=false:=by rw[beq_eq_false_iff_ne];omega
 clear a b c;go_enter Tryz.func143,Tryz.ntmps143;go_wp2;go_ret;rw[f.out];exact⟨rfl,rfl⟩
theorem yB:∀v,v<32->v≠31->fc 3 v=-1:=of_decide_eq_true oK
theorem xh:fc 3 31=0:=oK
theorem Hn (v:Nat) (b:v<32) (w:World):Calls Tryz.prog 143 #[.int .i64 3,.int .i64 (v:Int)] w λe w'=>e= .returned (.int .i64 (fc 3 v))/\w'=w:=by
 by_cases a:v=31
 ·subst a;go_enter Tryz.func143,Tryz.ntmps143;go_wp2;go_ret;rw[xh];exact⟨rfl,rfl⟩
 have c:=Lib.hid (yB v b a);have d:((v:Int)==31)=false:=by rw[beq_eq_false_iff_ne];omega
 clear a;go_enter Tryz.func143,Tryz.ntmps143;go_wp2;go_ret;rw[c.out];exact⟨rfl,rfl⟩
theorem yR:∀v,v<32->v≠14->fc 4 v=-1:=of_decide_eq_true oK
theorem xJ:fc 4 14=0:=oK
theorem GX (v:Nat) (b:v<32) (w:World):Calls Tryz.prog 143 #[.int .i64 4,.int .i64 (v:Int)] w λe w'=>e= .returned (.int .i64 (fc 4 v))/\w'=w:=by
 by_cases a:v=14
 ·subst a;go_enter Tryz.func143,Tryz.ntmps143;go_wp2;go_ret;rw[xJ];exact⟨rfl,rfl⟩
 have c:=Lib.hid (yR v b a);have d:((v:Int)==14)=false:=by rw[beq_eq_false_iff_ne];omega
 clear a;go_enter Tryz.func143,Tryz.ntmps143;go_wp2;go_ret;rw[c.out];exact⟨rfl,rfl⟩
theorem kC (m v:Nat) (c:m<5) (a:v<32) (w:World):Calls Tryz.prog 143 #[.int .i64 (m:Int),.int .i64 (v:Int)] w λe w'=>e= .returned (.int .i64 (fc m v))/\w'=w:=by
 have b:m=0\/m=1\/m=2\/m=3\/m=4:=oO;rcases b with rfl|rfl|rfl|rfl|rfl
 ·exact Iv v a w
 ·exact Ir v a w
 ·exact H4 v a w
 ·exact Hn v a w
 ·exact GX v a w
theorem y8:∀v,v<32->v≠0->fA 0 v=-1:=of_decide_eq_true oK
theorem zP:fA 0 0=3:=oK
theorem IY (v:Nat) (b:v<32) (w:World):Calls Tryz.prog 144 #[.int .i64 0,.int .i64 (v:Int)] w λe w'=>e= .returned (.int .i64 (fA 0 v))/\w'=w:=by
 by_cases a:v=0
 ·subst a;go_enter Tryz.func144,Tryz.ntmps144;go_wp2;go_ret;rw[zP];exact⟨rfl,rfl⟩
 have c:=Lib.hid (y8 v b a);have d:((v:Int)==0)=false:=by rw[beq_eq_false_iff_ne];omega
 clear a;go_enter Tryz.func144,Tryz.ntmps144;go_wp2;go_ret;rw[c.out];exact⟨rfl,rfl⟩
theorem Af:∀v,v<32->v≠0->v≠28->fA 1 v=-1:=of_decide_eq_true oK
theorem AD:fA 1 0=3:=oK
theorem xg:fA 1 28=0:=oK
theorem ID (v:Nat) (c:v<32) (w:World):Calls Tryz.prog 144 #[.int .i64 1,.int .i64 (v:Int)] w λe w'=>e= .returned (.int .i64 (fA 1 v))/\w'=w:=by
 by_cases a:v=0
 ·subst a;go_enter Tryz.func144,Tryz.ntmps144;go_wp2;go_ret;rw[AD];exact⟨rfl,rfl⟩
 by_cases b:v=28
 ·subst b;go_enter Tryz.func144,Tryz.ntmps144;go_wp2;go_ret;rw[xg];exact⟨rfl,rfl⟩
 have d:=Lib.hid (Af v c a b);have f:((v:Int)==0)=false:=by rw[beq_eq_false_iff_ne];omega
 have g:((v:Int)==28)=false:=by rw[beq_eq_false_iff_ne];omega
 clear a b;go_enter Tryz.func144,Tryz.ntmps144;go_wp2;go_ret;rw[d.out];exact⟨rfl,rfl⟩
theorem yw:∀v,v<32->v≠0->fA 2 v=-1:=of_decide_eq_true oK
theorem yF:fA 2 0=3:=oK
theorem IT (v:Nat) (b:v<32) (w:World):Calls Tryz.prog 144 #[.int .i64 2,.int .i64 (v:Int)] w λe w'=>e= .returned (.int .i64 (fA 2 v))/\w'=w:=by
 by_cases a:v=0
 ·subst a;go_enter Tryz.func144,Tryz.ntmps144;go_wp2;go_ret;rw[yF];exact⟨rfl,rfl⟩
 have c:=Lib.hid (yw v b a);have d:((v:Int)==0)=false:=by rw[beq_eq_false_iff_ne];omega
 clear a;go_enter Tryz.func144,Tryz.ntmps144;go_wp2;go_ret;rw[c.out];exact⟨rfl,rfl⟩
theorem zB:∀v,v<32->fA 3 v=-1:=of_decide_eq_true oK
theorem Ij (v:Nat) (a:v<32) (w:World):Calls Tryz.prog 144 #[.int .i64 3,.int .i64 (v:Int)] w λe w'=>e= .returned (.int .i64 (fA 3 v))/\w'=w:=by
 have b:=Lib.hid (zB v a);go_enter Tryz.func144,Tryz.ntmps144;go_wp2;go_ret;rw[b.out];exact⟨rfl,rfl⟩
theorem yZ:∀v,v<32->v≠0->v≠15->fA 4 v=-1:=of_decide_eq_true oK
theorem zS:fA 4 0=3:=oK
theorem xy:fA 4 15=0:=oK
theorem Iz (v:Nat) (c:v<32) (w:World):Calls Tryz.prog 144 #[.int .i64 4,.int .i64 (v:Int)] w λe w'=>e= .returned (.int .i64 (fA 4 v))/\w'=w:=by
 by_cases a:v=0
 ·subst a;go_enter Tryz.func144,Tryz.ntmps144;go_wp2;go_ret;rw[zS];exact⟨rfl,rfl⟩
 by_cases b:v=15
 ·subst b;go_enter Tryz.func144,Tryz.ntmps144;go_wp2;go_ret;rw[xy];exact⟨rfl,rfl⟩
 have d:=Lib.hid (yZ v c a b);have f:((v:Int)==0)=false:=by rw[beq_eq_false_iff_ne];omega
 have g:((v:Int)==15)=false:=by rw[beq_eq_false_iff_ne];omega
 clear a b;go_enter Tryz.func144,Tryz.ntmps144;go_wp2;go_ret;rw[d.out];exact⟨rfl,rfl⟩
theorem dL (m v:Nat) (c:m<5) (a:v<32) (w:World):Calls Tryz.prog 144 #[.int .i64 (m:Int),.int .i64 (v:Int)] w λe w'=>e= .returned (.int .i64 (fA m v))/\w'=w:=by
 have b:m=0\/m=1\/m=2\/m=3\/m=4:=oO;rcases b with rfl|rfl|rfl|rfl|rfl
 ·exact IY v a w
 ·exact ID v a w
 ·exact IT v a w
 ·exact Ij v a w
 ·exact Iz v a w
theorem BH:∀v,v<32->2<=v->v<=27->Cd.extract (v-2) (v-1)=dw 0 v:=of_decide_eq_true oK
theorem AM:∀v,v<32->27<v->dw 0 v=ByteArray.empty:=of_decide_eq_true oK
theorem y7:dw 0 0=ByteArray.empty:=oK
theorem AG:dw 0 1=⟨#[32]⟩:=oK
theorem GU (v:Nat) (f:v<32) (w:World):Calls Tryz.prog 141 #[.int .i64 0,.int .i64 (v:Int)] w λe w'=>e= .returned (.string (dw 0 v))/\Below w.heap.size w w':=by
 by_cases a:v=0
 ·subst a;go_enter Tryz.func141,Tryz.ntmps141;go_wp2;go_ret;rw[y7];exact⟨rfl,Below.refl _ _⟩
 by_cases b:v=1
 ·subst b;go_enter Tryz.func141,Tryz.ntmps141;go_wp2;go_ret;rw[AG];exact⟨rfl,Below.refl _ _⟩
 have i:((v:Int)==0)=false:=by rw[beq_eq_false_iff_ne];omega
 have j:((v:Int)==1)=false:=by rw[beq_eq_false_iff_ne];omega
 by_cases hl:27<v
 ·have c:=Lib.hid (AM v f hl);have g:decide ((27:Int)<(v:Int))=true:=by simp;omega
  clear a b;go_enter Tryz.func141,Tryz.ntmps141;go_wp2;go_ret;rw[c.out];exact⟨rfl,Below.refl _ _⟩
 have g:decide ((27:Int)<(v:Int))=false:=by simp;omega
 have d:=BH v f oO oO;obtain⟨k,rfl⟩:∃k,v=k+2:=⟨v-2,by omega⟩;rw[Nat.add_sub_cancel]at d;have c:=Lib.hid d;have l:((k:Int)+2==0)=false:=by rw[beq_eq_false_iff_ne];omega
 have m:((k:Int)+2==1)=false:=by rw[beq_eq_false_iff_ne];omega
 have n:decide ((27:Int)<(k:Int)+2)=false:=by simp;omega
 have o:k<26:=oO;clear i j g a b d hl;go_enter Tryz.func141,Tryz.ntmps141;go_wp2;go_ret;rw[<-c.out];exact⟨rfl,Below.refl _ _⟩
theorem AT:∀v,v<32->2<=v->v<=27->Ce.extract (v-2) (v-1)=dw 1 v:=of_decide_eq_true oK
theorem Ba:∀v,v<32->27<v->dw 1 v=ByteArray.empty:=of_decide_eq_true oK
theorem yA:dw 1 0=ByteArray.empty:=oK
theorem Bl:dw 1 1=⟨#[32]⟩:=oK
theorem Gv (v:Nat) (f:v<32) (w:World):Calls Tryz.prog 141 #[.int .i64 1,.int .i64 (v:Int)] w λe w'=>e= .returned (.string (dw 1 v))/\Below w.heap.size w w':=by
 by_cases a:v=0
 ·subst a;go_enter Tryz.func141,Tryz.ntmps141;go_wp2;go_ret;rw[yA];exact⟨rfl,Below.refl _ _⟩
 by_cases b:v=1
 ·subst b;go_enter Tryz.func141,Tryz.ntmps141;go_wp2;go_ret;rw[Bl];exact⟨rfl,Below.refl _ _⟩
 have i:((v:Int)==0)=false:=by rw[beq_eq_false_iff_ne];omega
 have j:((v:Int)==1)=false:=by rw[beq_eq_false_iff_ne];omega
 by_cases hl:27<v
 ·have c:=Lib.hid (Ba v f hl);have g:decide ((27:Int)<(v:Int))=true:=by simp;omega
  clear a b;go_enter Tryz.func141,Tryz.ntmps141;go_wp2;go_ret;rw[c.out];exact⟨rfl,Below.refl _ _⟩
 have g:decide ((27:Int)<(v:Int))=false:=by simp;omega
 have d:=AT v f oO oO;obtain⟨k,rfl⟩:∃k,v=k+2:=⟨v-2,by omega⟩;rw[Nat.add_sub_cancel]at d;have c:=Lib.hid d;have l:((k:Int)+2==0)=false:=by rw[beq_eq_false_iff_ne];omega
 have m:((k:Int)+2==1)=false:=by rw[beq_eq_false_iff_ne];omega
 have n:decide ((27:Int)<(k:Int)+2)=false:=by simp;omega
 have o:k<26:=oO;clear i j g a b d hl;go_enter Tryz.func141,Tryz.ntmps141;go_wp2;go_ret;rw[<-c.out];exact⟨rfl,Below.refl _ _⟩
theorem AJ:∀v,v<32->2<=v->v<=27->Cl.extract (v-2) (v-1)=dw 2 v:=of_decide_eq_true oK
theorem AZ:∀v,v<32->27<v->dw 2 v=ByteArray.empty:=of_decide_eq_true oK
theorem xZ:dw 2 0=ByteArray.empty:=oK
theorem BE:dw 2 1=⟨#[32]⟩:=oK
theorem Gz (v:Nat) (f:v<32) (w:World):Calls Tryz.prog 141 #[.int .i64 2,.int .i64 (v:Int)] w λe w'=>e= .returned (.string (dw 2 v))/\Below w.heap.size w w':=by
 by_cases a:v=0
 ·subst a;go_enter Tryz.func141,Tryz.ntmps141;go_wp2;go_ret;rw[xZ];exact⟨rfl,Below.refl _ _⟩
 by_cases b:v=1
 ·subst b;go_enter Tryz.func141,Tryz.ntmps141;go_wp2;go_ret;rw[BE];exact⟨rfl,Below.refl _ _⟩
 have i:((v:Int)==0)=false:=by rw[beq_eq_false_iff_ne];omega
 have j:((v:Int)==1)=false:=by rw[beq_eq_false_iff_ne];omega
 by_cases hl:27<v
 ·have c:=Lib.hid (AZ v f hl);have g:decide ((27:Int)<(v:Int))=true:=by simp;omega
  clear a b;go_enter Tryz.func141,Tryz.ntmps141;go_wp2;go_ret;rw[c.out];exact⟨rfl,Below.refl _ _⟩
 have g:decide ((27:Int)<(v:Int))=false:=by simp;omega
 have d:=AJ v f oO oO;obtain⟨k,rfl⟩:∃k,v=k+2:=⟨v-2,by omega⟩;rw[Nat.add_sub_cancel]at d;have c:=Lib.hid d;have l:((k:Int)+2==0)=false:=by rw[beq_eq_false_iff_ne];omega
 have m:((k:Int)+2==1)=false:=by rw[beq_eq_false_iff_ne];omega
 have n:decide ((27:Int)<(k:Int)+2)=false:=by simp;omega
 have o:k<26:=oO;clear i j g a b d hl;go_enter Tryz.func141,Tryz.ntmps141;go_wp2;go_ret;rw[<-c.out];exact⟨rfl,Below.refl _ _⟩
theorem Bv:∀v,v<32->6<=v->v<=30->CW.extract (v-6) (v-5)=dw 3 v:=of_decide_eq_true oK
theorem Bt:∀v,v<32->30<v->dw 3 v=ByteArray.empty:=of_decide_eq_true oK
theorem zF:dw 3 0=ByteArray.empty:=oK
theorem BF:dw 3 1=⟨#[13]⟩:=oK
theorem BM:dw 3 2=⟨#[13,10]⟩:=oK
theorem AQ:dw 3 3=⟨#[46,32]⟩:=oK
theorem BY:dw 3 4=⟨#[44,32]⟩:=oK
theorem BQ:dw 3 5=⟨#[58,32]⟩:=oK
theorem It (v:Nat) (f:v<32) (w:World):Calls Tryz.prog 141 #[.int .i64 3,.int .i64 (v:Int)] w λe w'=>e= .returned (.string (dw 3 v))/\Below w.heap.size w w':=by
 by_cases a:v=0
 ·subst a;go_enter Tryz.func141,Tryz.ntmps141;go_wp2;go_ret;rw[zF];exact⟨rfl,Below.refl _ _⟩
 by_cases b:v=1
 ·subst b;go_enter Tryz.func141,Tryz.ntmps141;go_wp2;go_ret;rw[BF];exact⟨rfl,Below.refl _ _⟩
 have n:((v:Int)==0)=false:=by rw[beq_eq_false_iff_ne];omega
 have o:((v:Int)==1)=false:=by rw[beq_eq_false_iff_ne];omega
 by_cases hl:30<v
 ·have c:=Lib.hid (Bt v f hl);have g:decide ((30:Int)<(v:Int))=true:=by simp;omega
  clear a b;go_enter Tryz.func141,Tryz.ntmps141;go_wp2;go_ret;rw[c.out];exact⟨rfl,Below.refl _ _⟩
 have g:decide ((30:Int)<(v:Int))=false:=by simp;omega
 by_cases i:v=2
 ·subst i;go_enter Tryz.func141,Tryz.ntmps141;go_wp2;go_ret;rw[BM];exact⟨rfl,ar _ _⟩
 by_cases j:v=3
 ·subst j;go_enter Tryz.func141,Tryz.ntmps141;go_wp2;go_ret;rw[AQ];exact⟨rfl,ar _ _⟩
 by_cases l:v=4
 ·subst l;go_enter Tryz.func141,Tryz.ntmps141;go_wp2;go_ret;rw[BY];exact⟨rfl,ar _ _⟩
 by_cases m:v=5
 ·subst m;go_enter Tryz.func141,Tryz.ntmps141;go_wp2;go_ret;rw[BQ];exact⟨rfl,ar _ _⟩
 have p:decide ((v:Int)<6)=false:=by simp;omega
 have d:=Bv v f oO oO;obtain⟨k,rfl⟩:∃k,v=k+6:=⟨v-6,by omega⟩;rw[Nat.add_sub_cancel]at d;have c:=Lib.hid d;have q:((k:Int)+6==0)=false:=by rw[beq_eq_false_iff_ne];omega
 have r:((k:Int)+6==1)=false:=by rw[beq_eq_false_iff_ne];omega
 have s:decide ((30:Int)<(k:Int)+6)=false:=by simp;omega
 have t:k<25:=oO;clear n o g a b d hl p i j l m;have u:decide ((k:Int)+6<6)=false:=by simp;omega
 go_enter Tryz.func141,Tryz.ntmps141;go_wp2;go_ret;rw[<-c.out];exact⟨rfl,Below.refl _ _⟩
theorem AV:∀v,v<32->2<=v->v<=13->Av.extract (v-2) (v-1)=dw 4 v:=of_decide_eq_true oK
theorem BX:∀v,v<32->13<v->dw 4 v=ByteArray.empty:=of_decide_eq_true oK
theorem yc:dw 4 0=ByteArray.empty:=oK
theorem Bp:dw 4 1=⟨#[32]⟩:=oK
theorem IJ (v:Nat) (f:v<32) (w:World):Calls Tryz.prog 141 #[.int .i64 4,.int .i64 (v:Int)] w λe w'=>e= .returned (.string (dw 4 v))/\Below w.heap.size w w':=by
 by_cases a:v=0
 ·subst a;go_enter Tryz.func141,Tryz.ntmps141;go_wp2;go_ret;rw[yc];exact⟨rfl,Below.refl _ _⟩
 by_cases b:v=1
 ·subst b;go_enter Tryz.func141,Tryz.ntmps141;go_wp2;go_ret;rw[Bp];exact⟨rfl,Below.refl _ _⟩
 have i:((v:Int)==0)=false:=by rw[beq_eq_false_iff_ne];omega
 have j:((v:Int)==1)=false:=by rw[beq_eq_false_iff_ne];omega
 by_cases hl:13<v
 ·have c:=Lib.hid (BX v f hl);have g:decide ((13:Int)<(v:Int))=true:=by simp;omega
  clear a b;go_enter Tryz.func141,Tryz.ntmps141;go_wp2;go_ret;rw[c.out];exact⟨rfl,Below.refl _ _⟩
 have g:decide ((13:Int)<(v:Int))=false:=by simp;omega
 have d:=AV v f oO oO;obtain⟨k,rfl⟩:∃k,v=k+2:=⟨v-2,by omega⟩;rw[Nat.add_sub_cancel]at d;have c:=Lib.hid d;have l:((k:Int)+2==0)=false:=by rw[beq_eq_false_iff_ne];omega
 have m:((k:Int)+2==1)=false:=by rw[beq_eq_false_iff_ne];omega
 have n:decide ((13:Int)<(k:Int)+2)=false:=by simp;omega
 have o:k<12:=oO;clear i j g a b d hl;go_enter Tryz.func141,Tryz.ntmps141;go_wp2;go_ret;rw[<-c.out];exact⟨rfl,Below.refl _ _⟩
theorem gB (m v:Nat) (c:m<5) (a:v<32) (w:World):Calls Tryz.prog 141 #[.int .i64 (m:Int),.int .i64 (v:Int)] w λe w'=>e= .returned (.string (dw m v))/\Below w.heap.size w w':=by
 have b:m=0\/m=1\/m=2\/m=3\/m=4:=oO;rcases b with rfl|rfl|rfl|rfl|rfl
 ·exact GU v a w
 ·exact Gv v a w
 ·exact Gz v a w
 ·exact It v a w
 ·exact IJ v a w
theorem SR.take {α:Type} {f:α->Value} {d:α} {w:World} {A:Option Addr} {n c k:Nat} {l:List α} (h:SR f d w A n c l) (i:k<=n):SR f d w A k c (l.take k):=by
 have hn:=h.hn;have m:=h.hc;refine⟨by rw[List.length_take];omega,by omega,h.hm,λa=>?_⟩;rw[List.length_take]at a;obtain⟨b,e,hl,hc⟩:=h.rd oO;refine⟨b,e,hl,λj g=>?_⟩;rw[List.length_take]at g;rw[hc j oO];simp only[List.getD];rw[List.getElem?_take,if_pos oO]
theorem DK (A:Option Addr) (n c:Nat) (a:Nat) (w:World) (hn:n<=4096) (b:a<=n) (hc:n<=c):
 Calls Tryz.prog 142 #[.slice A n c,.int .i64 (a:Int),.string ByteArray.empty] w λe w'=>e= .returned (.bool false)/\w'=w:=by
 have d:ByteArray.empty.toList.isEmpty=true:=by rw[<-decide_eq_emptyBytes];exact decide_eq_true rfl
 go_enter Tryz.func142,Tryz.ntmps142;go_wp2;go_ret;exact⟨rfl,rfl⟩
theorem tM (A:Option Addr) (n c:Nat) (l:List UInt8) (a:Nat) (b:ByteArray) (w:World) (d:SR vU 0 w A n c l) (hn:n<=4096) (t:a<=n) (u:b.size<=1000) (f:b≠ByteArray.empty):
 Calls Tryz.prog 142 #[.slice A n c,.int .i64 (a:Int),.string b] w λe w'=>e= .returned (.bool (preB (bA l) a b))/\w'=w:=by
 have g:n=l.length:=d.hn;have B:b.toList.isEmpty=false:=by rw[<-decide_eq_emptyBytes];exact decide_eq_false f
 have C:0<b.size:=by
  rcases Nat.eq_zero_or_pos b.size with h|h
  ·exact absurd (ByteArray.size_eq_zero_iff.1 h) f
  ·exact h
 have j:Hid (preB (bA l) a b=(decide (b.size<=n-a)&&((l.drop a).take b.size==b.data.toList))):=by
  show _=_;rw[JB,<-Lib.hasPrefix_of_take];have e1:b.data.toList.length=b.size:=by simp
  rw[e1,List.length_drop,g]
 have v:=Lib.hid d;have x:=Lib.hid g;have hc:=d.hc;have y:=d.hm;have z:IntKind.i64.wrap ((a:Int)+(b.size:Int))=((a+b.size:Nat):Int):=by rw[aJ _ oO oO];omega
 by_cases k:b.size<=n-a
 ·have o:decide ((a:Int)+(b.size:Int)<=(n:Int))=true:=by simp;omega
  obtain⟨i,rfl,r,s⟩:=d.rd oO;have p:Hid (SR vU 0 w (some (i.add a)) (a+b.size-a) (c-a) ((l.drop a).take b.size)):=by
   rw[Nat.add_sub_cancel_left];exact(d.drop (m:=a) (A':=some (i.add a)) (c':=c-a) oO (.inr ⟨i,rfl,rfl⟩) rfl).take oO
  clear d g r s f;go_enter Tryz.func142,Tryz.ntmps142;go_wp2_with((with_reducible show wpList _ _ _ (⟨_,Op.convert 22 9 _,_,_,_,_⟩::_) _ _);refine Al rfl (uz (A:=some (i.add a)) (n:=a+b.size-a) (c:=c-a) rfl rfl p.out) ?_)
  go_ret;exact⟨by rw[j.out,decide_eq_true k,Bool.true_and,Lib.toList_data];rfl,rfl⟩
 ·have o:decide ((a:Int)+(b.size:Int)<=(n:Int))=false:=by simp;omega
  have q:Hid (preB (bA l) a b=false):=by show _=_;rw[j.out,decide_eq_false k];rfl
  clear d g f;rw[q.out];go_enter Tryz.func142,Tryz.ntmps142;go_wp2;go_ret;exact⟨rfl,rfl⟩
def an.v1 (a:an):Nat:=if a.run=0 then a.sec.toNat else if a.long=true then 0 else a.run
def an.v2 (a:an):Nat:=if a.run=0 then 0 else if a.long=true then a.run-31 else 0
def an.w1 (a:an):Nat:=if a.run=0 then(if 0<=a.sec then 5 else 0)else 5
def an.w2 (a:an):Nat:=if a.run=0 then 0 else if a.long=true then 11 else 0
def di (W:Nat) (a:an):List Value:=[.int .i64 (a.num:Int),.int .i64 (a.v1:Int),.int .i64 (a.v2:Int),.int .i64 0,.int .i64 (W:Int),.int .i64 (a.w1:Int),.int .i64 (a.w2:Int),.int .i64 0,.int .i64 (a.size:Int),.int .i64 (a.at_:Int),.int .i64 (a.mode:Int)]
theorem uY (W:Nat) (b:an):∀v∈di W b,v.oneCell'=true:=by
 intro v a;simp only[di,List.mem_cons,List.not_mem_nil,or_false]at a;rcases a with rfl|rfl|rfl|rfl|rfl|rfl|rfl|rfl|rfl|rfl|rfl<;>rfl
theorem FB:(Tryz.prog.info? 130).map (λi=>(i.zero,i.size,i.bytes))=some (some (.agg #[.int .i64 0,.int .i64 0,.int .i64 0,.int .i64 0,.int .i64 0,.int .i64 0,.int .i64 0,.int .i64 0,.int .i64 0,.int .i64 0,.int .i64 0]),11,88):=oK
theorem qD:(Tryz.prog.info? 130).map (·.size)=some 11:=oK
structure e8 (m:Nat) (w wr:World) (v:Value) (l:List an):Prop where
 B:af w wr
 O:wr.ownsRow w.heap.size 130 11 v l.length (l.flatMap (di m))
theorem e8.start (m:Nat) (w wr:World) (h:af w wr):e8 m w wr (.slice none 0 0) []:=⟨h,World.ownsRow_nil _ _ _ _⟩
theorem e8.below {m:Nat} {w wr W:World} {v:Value} {l:List an} (h:e8 m w wr v l) (a:Below wr.heap.size wr W):e8 m w W v l:=⟨ab h.B a,ah h.O a⟩
theorem fk {n:Array Oper} {o:List Oper} {b:Oper} {a:Act} {Q:Exit->Act->World->Prop} {m:Nat} {w wr W:World} {v:Value} {l:List an} (h:e8 m w wr v l) (g:Below wr.heap.size wr W) (C:b.guard=none) (s y:Operand)
 (p:b.op= .call {callee:= .builtin .append,args:=#[s,y],argTypes:=#[126,126]}) (hs:a.eval s=v) (e:Addr) (c:Nat) (x:an) (q:a.eval y= .slice (some e) 1 c)
 (hc:∀j u,(di m x)[j]?=some u->W.cell? (e.add j)=some u) (hl:l.length<=50000) (f:∀d w',Hid (e8 m w w' d (l++[x]))->wpList Tryz.prog n Q o (a.put b.dst d) w'):wpList Tryz.prog n Q (b::o) a W:=by
 refine wpList_plain C λK r=>?_;obtain⟨t,z,D,E,F⟩:=info_parts FB;have i:=ah h.O g;have hB:=ab h.B g;obtain⟨d,w',G,A,B,_,H⟩:=run_append_own_at (P:=Tryz.prog) W w.heap.size 126 b.type 130 t _ 11 88 Tryz.underlying126 z D E F rfl oO v l.length _ i e 1 c (di m x) (by rfl) hc (uY m x) oM oO hB.size;unfold Oper.wp execOp;simp only[p,resolve,invoke,builtin,Sem.run_bind,Sem.run_pure,Result.andThen_ok,List.map_toArray,List.map_cons,List.map_nil,hs,q,G];refine r _ _ (f d w' ⟨hB.grown B hB.size (λk f=>(i.lt k f).1),?_⟩);rw[List.length_append,List.flatMap_append,List.flatMap_singleton];exact A
theorem nC {W:World} {b:Nat} {a:List Value} {c:TypeId} (hb:b=W.heap.size):∀j u,a[j]?=some u->(W.alloc (.cells a.toArray c)).cell? ((⟨b,0,none⟩:Addr).add j)=some u:=bS (ai.new W a.toArray c b hb)
theorem xW:∀m,m<5->∀n,n<32->cf m n=1->cW m n≠ByteArray.empty:=of_decide_eq_true oK
def l3 (p:ByteArray) (a m n:Nat):List an:=
 if cf m n=1 then(if preB p a (cW m n)=true then[⟨n,-1,0,false,aj m,a+(cW m n).size,m⟩]else[])
 else if cf m n=2 then[⟨n,-1,0,false,aj m,a,modeF m n⟩]
 else if cf m n=3 then optSK p a m n (modeF m n) 32
 else[]
def ei (p:ByteArray) (a m:Nat):Nat->List an
 |0=>[]
 |k+1=>ei p a m k++l3 p a m k
def oz (a m j:Nat):an:=if 31<j then⟨31,-1,j,true,21+8* j,a+j,m⟩else⟨31,-1,j,false,10+8* j,a+j,m⟩
def nF (a m:Nat):Nat->List an
 |0=>[]
 |k+1=>nF a m k++[oz a m (k+1)]
def uH (p:ByteArray) (a m:Nat):Nat:=if m<=2 then min 2078 (p.size-a)else 0
def dp (p:ByteArray) (a m:Nat):List an:=ei p a m (2^aj m)++nF a m (uH p a m)
theorem JZ (p:ByteArray) (a m n:Nat):(l3 p a m n).length<=32:=by
 have h:=lT p a m n (modeF m n) 32;unfold l3;generalize optSK p a m n (modeF m n) 32=l at*;split
 ·split<;>simp
 split
 ·simp
 split
 ·exact h
 ·simp
theorem oX (p:ByteArray) (a m:Nat):∀k,(ei p a m k).length<=32* k
 |0=>Nat.le_refl _
 |k+1=>by
  have b:=oX p a m k;have c:=JZ p a m k;unfold ei;rw[List.length_append];omega
theorem r5 (a m:Nat):∀k,(nF a m k).length=k
 |0=>rfl
 |k+1=>by unfold nF;rw[List.length_append,r5 a m k];rfl
theorem uA (A:Option Addr) (n c:Nat) (l:List UInt8) (a m:Nat) (w:World) (be:SR vU 0 w A n c l) (hn:n<=4096) (bf:a<=n) (f:m<5):
 Calls Tryz.prog 101 #[.slice A n c,.int .i64 (a:Int),.int .i64 (m:Int)] w λe w'=>∃v,e= .returned v/\e8 (aj m) w w' v (dp (bA l) a m):=by
 have bi:n=l.length:=be.hn;have bo:=Lib.hid be;have cv:=Lib.hid bi;have co:Hid ((bA l).size=n):=by show _=_;rw[iS,bi]
 obtain⟨d,ac⟩:∃d,d=aj m:=⟨_,rfl⟩;have cb:d=4\/d=5:=by rw[ac];unfold aj;split<;>omega
 have ce:Hid (Calls Tryz.prog 140 #[.int .i64 (m:Int)] w λe w'=>e= .returned (.int .i64 (d:Int))/\w'=w):=by rw[ac];exact D1 m w
 have ad:=Lib.hid ac;rw[<-ac];clear be bi ac;go_enter Tryz.func101,Tryz.ntmps101;go_wp2_with(go_at_call 140;refine ce.out.mono ?_;rintro e w1 ⟨rfl,b3⟩;rw[b3];clear b3)
 obtain⟨E,a2⟩:∃E,E=2^d:=⟨_,rfl⟩;have c6:E<=32:=by rw[a2];rcases cb with rfl|rfl<;>decide
 have cp:wrap64 ((2:Int)^d)=(E:Int):=by rw[a2];rcases cb with h|h<;>rw[h]<;>unfold wrap64<;>decide
 have bq:Hid (ei (bA l) a m (2^d)=ei (bA l) a m E):=by show _=_;rw[a2]
 clear a2;go_loopw [7,9] (λy O wr=>∃k:Nat,k<=E/\O= .int .i64 k/\Hid (e8 d w wr y (ei (bA l) a m k))) (λ_ O _=>E-(intOf O).toNat)
 case atStart=>exact⟨0,Nat.zero_le _,rfl,e8.start _ _ _ (Below.refl _ _)⟩
 case round=>
  obtain⟨k,cx,rfl,q⟩:=hrel;by_cases b4:k<E
  ·have g:k<32:=oO;have b1:(ei (bA l) a m k).length<=32* k:=oX _ _ _ _;have bs:=Lib.hid b1;clear b1;have H:Hid (ei (bA l) a m (k+1)=ei (bA l) a m k++l3 (bA l) a m k):=rfl;obtain⟨Z,s⟩:∃Z,Z=cf m k:=⟨_,rfl⟩;obtain⟨md,J⟩:∃md,md=modeF m k:=⟨_,rfl⟩;by_cases G:Z=1
   ·have V:Hid (dw m k=cW m k):=by show _=_;unfold dw;rw[<-s,if_pos G]
    have T:Hid (fc m k=-1):=by show _=_;unfold fc;rw[<-s,if_neg oO]
    have x:Hid (fA m k=-1):=by show _=_;unfold fA;rw[<-s,if_neg oO]
    have al:cW m k≠ByteArray.empty:=xW m f k g oO;have cq:=ky m f k g;have z:Hid (l3 (bA l) a m k=if preB (bA l) a (cW m k)=true then[⟨k,-1,0,false,d,a+(cW m k).size,m⟩]else[]):=by show _=_;unfold l3;rw[<-s,if_pos G,<-ad.out]
    clear s J G;generalize cW m k=D at*;have K:Hid (∀W,af w W->Calls Tryz.prog 142 #[.slice A n c,.int .i64 (a:Int),.string D] W λe w'=>e= .returned (.bool (preB (bA l) a D))/\w'=W):=λW a3=>tM A n c l a D W (bo.out.below a3) hn bf oO al;clear al;cases L:preB (bA l) a D with
    |true=>
     rw[L]at K z;obtain⟨no,t⟩:∃no:an,no=⟨k,-1,0,false,d,a+D.size,m⟩:=⟨_,rfl⟩;have am:=Lib.hid t;have B:Hid (ei (bA l) a m (k+1)=ei (bA l) a m k++[no]):=by show _=_;rw[H.out,z.out,if_pos rfl,t]
     clear L t H z
     go_wp2_with(first
      |(go_at_call 141;refine(gB m k f g _).mono ?_;rintro e P ⟨rfl,o⟩;have i:=Lib.hid (q.out.below o);rw[V.out];clear o)
      |(go_at_call 142;refine(K.out _ i.out.B).mono ?_;rintro e Q ⟨rfl,p⟩;rw[p];clear p)
      |(at_builtin;refine fk i.out (ar _ _) rfl _ _ rfl rfl _ _ no (by rfl) (by rw[am.out];exact nC rfl) (by have:=bs.out;omega) ?_;intro a4 a5 M)
      |(go_at_call 143;refine(kC m k f g _).mono ?_;rintro e r ⟨rfl,b⟩;rw[b,T.out];clear b)
      |(go_at_call 144;refine(dL m k f g _).mono ?_;rintro e r ⟨rfl,b⟩;rw[b,x.out];clear b))
     go_loopw [7,11] (λy F wr=>F= .int .i64 0/\Hid (e8 d w wr y (ei (bA l) a m (k+1)))) (λ_ _ _=>0)
     case atStart=>exact⟨rfl,by show e8 _ _ _ _ _;rw[B.out];exact M.out⟩
     case round=>
      obtain⟨rfl,S⟩:=hrel
      go_wp2_with(first
       |(go_at_call 144;refine(dL m k f g _).mono ?_;rintro e r ⟨rfl,b⟩;rw[b,x.out];clear b))
      exact⟨⟨k+1,by omega,by go_num,S.out⟩,by simp[intOf];omega⟩
    |false=>
     rw[L]at K z;have B:Hid (ei (bA l) a m (k+1)=ei (bA l) a m k):=by show _=_;rw[H.out,z.out,if_neg oS,List.append_nil]
     clear L H z
     go_wp2_with(first
      |(go_at_call 141;refine(gB m k f g _).mono ?_;rintro e P ⟨rfl,o⟩;have i:=Lib.hid (q.out.below o);rw[V.out];clear o)
      |(go_at_call 142;refine(K.out _ i.out.B).mono ?_;rintro e Q ⟨rfl,p⟩;rw[p];clear p)
      |(go_at_call 143;refine(kC m k f g _).mono ?_;rintro e r ⟨rfl,b⟩;rw[b,T.out];clear b)
      |(go_at_call 144;refine(dL m k f g _).mono ?_;rintro e r ⟨rfl,b⟩;rw[b,x.out];clear b))
     go_loopw [7,11] (λy F wr=>F= .int .i64 0/\Hid (e8 d w wr y (ei (bA l) a m (k+1)))) (λ_ _ _=>0)
     case atStart=>exact⟨rfl,by show e8 _ _ _ _ _;rw[B.out];exact i.out⟩
     case round=>
      obtain⟨rfl,S⟩:=hrel
      go_wp2_with(first
       |(go_at_call 144;refine(dL m k f g _).mono ?_;rintro e r ⟨rfl,b⟩;rw[b,x.out];clear b))
      exact⟨⟨k+1,by omega,by go_num,S.out⟩,by simp[intOf];omega⟩
   have V:Hid (dw m k=ByteArray.empty):=by show _=_;unfold dw;rw[<-s,if_neg G]
   have K:Hid (∀W,af w W->Calls Tryz.prog 142 #[.slice A n c,.int .i64 (a:Int),.string ByteArray.empty] W λe w'=>e= .returned (.bool false)/\w'=W):=λW a3=>DK A n c a W hn bf bo.out.hc;by_cases N:Z=2
   ·have T:Hid (fc m k=(md:Int)):=by show _=_;unfold fc;rw[<-s,if_pos N,<-J]
    have x:Hid (fA m k=-1):=by show _=_;unfold fA;rw[<-s,if_neg oO]
    obtain⟨no,t⟩:∃no:an,no=⟨k,-1,0,false,d,a,md⟩:=⟨_,rfl⟩;have am:=Lib.hid t;have B:Hid (ei (bA l) a m (k+1)=ei (bA l) a m k++[no]):=by show _=_;rw[H.out];unfold l3;rw[<-s,if_neg G,if_pos N,<-J,<-ad.out,t]
    clear s J G N t H
    go_wp2_with(first
     |(go_at_call 141;refine(gB m k f g _).mono ?_;rintro e P ⟨rfl,o⟩;have i:=Lib.hid (q.out.below o);rw[V.out];clear o)
     |(go_at_call 142;refine(K.out _ i.out.B).mono ?_;rintro e Q ⟨rfl,p⟩;rw[p];clear p)
     |(at_builtin;refine fk i.out (ar _ _) rfl _ _ rfl rfl _ _ no (by rfl) (by rw[am.out];exact nC rfl) (by have:=bs.out;omega) ?_;intro a4 a5 M)
     |(go_at_call 143;refine(kC m k f g _).mono ?_;rintro e r ⟨rfl,b⟩;rw[b,T.out];clear b)
     |(go_at_call 144;refine(dL m k f g _).mono ?_;rintro e r ⟨rfl,b⟩;rw[b,x.out];clear b))
    go_loopw [7,11] (λy F wr=>F= .int .i64 0/\Hid (e8 d w wr y (ei (bA l) a m (k+1)))) (λ_ _ _=>0)
    case atStart=>exact⟨rfl,by show e8 _ _ _ _ _;rw[B.out];exact M.out⟩
    case round=>
     obtain⟨rfl,S⟩:=hrel
     go_wp2_with(first
      |(go_at_call 144;refine(dL m k f g _).mono ?_;rintro e r ⟨rfl,b⟩;rw[b,x.out];clear b))
     exact⟨⟨k+1,by omega,by go_num,S.out⟩,by simp[intOf];omega⟩
   have T:Hid (fc m k=-1):=by show _=_;unfold fc;rw[<-s,if_neg N]
   by_cases U:Z=3
   ·have a1:md<5:=by rw[J];exact pJ m k
    have bt:aj md=5:=by rw[J];exact uT m f k g oO
    have x:Hid (fA m k=(md:Int)):=by show _=_;unfold fA;rw[<-s,if_pos U,<-J]
    have B:Hid (ei (bA l) a m (k+1)=ei (bA l) a m k++optSK (bA l) a m k md 32):=by show _=_;rw[H.out];unfold l3;rw[<-s,if_neg G,if_neg N,if_pos U,<-J]
    clear s J G N U H
    go_wp2_with(first
     |(go_at_call 141;refine(gB m k f g _).mono ?_;rintro e P ⟨rfl,o⟩;have i:=Lib.hid (q.out.below o);rw[V.out];clear o)
     |(go_at_call 142;refine(K.out _ i.out.B).mono ?_;rintro e Q ⟨rfl,p⟩;rw[p];clear p)
     |(go_at_call 143;refine(kC m k f g _).mono ?_;rintro e r ⟨rfl,b⟩;rw[b,T.out];clear b)
     |(go_at_call 144;refine(dL m k f g _).mono ?_;rintro e r ⟨rfl,b⟩;rw[b,x.out];clear b))
    go_loopw [7,11] (λy F wr=>∃u:Nat,u<=32/\F= .int .i64 u/\Hid (e8 d w wr y (ei (bA l) a m k++optSK (bA l) a m k md u))) (λ_ F _=>32-(intOf F).toNat)
    case atStart=>exact⟨0,Nat.zero_le _,rfl,by show e8 _ _ _ _ _;rw[show optSK (bA l) a m k md 0=[]from rfl,List.append_nil];exact i.out⟩
    case round=>
     clear q i;obtain⟨u,c2,rfl,q⟩:=hrel;by_cases ap:u<32
     ·have cr:Hid ((ei (bA l) a m k++optSK (bA l) a m k md u).length<=32* k+u):=by
       show _<=_;have cg:=bs.out;have c3:=lT (bA l) a m k md u;rw[List.length_append];omega
      have X:Hid (ei (bA l) a m k++optSK (bA l) a m k md (u+1)=(ei (bA l) a m k++optSK (bA l) a m k md u)++eW (bA l) a m k md u):=by show _=_;rw[List.append_assoc];rfl
      by_cases c1:cf md u=1
      ·have a8:Hid (dw md u=cW md u):=by show _=_;unfold dw;rw[if_pos c1]
       have al:cW md u≠ByteArray.empty:=xW md a1 u ap c1;have cq:=ky md a1 u ap;have z:Hid (eW (bA l) a m k md u=if preB (bA l) a (cW md u)=true then[⟨k,(u:Int),0,false,d+5,a+(cW md u).size,m⟩]else[]):=by
        show _=_;unfold eW;by_cases hq:preB (bA l) a (cW md u)=true
        ·rw[if_pos ⟨c1,hq⟩,if_pos hq,bt,<-ad.out]
        ·rw[if_neg (λh=>hq h.2),if_neg hq]
       clear c1;generalize cW md u=D at*;have a9:Hid (∀W,af w W->Calls Tryz.prog 142 #[.slice A n c,.int .i64 (a:Int),.string D] W λe w'=>e= .returned (.bool (preB (bA l) a D))/\w'=W):=λW a3=>tM A n c l a D W (bo.out.below a3) hn bf oO al;clear al;cases L:preB (bA l) a D with
       |true=>
        rw[L]at a9 z;obtain⟨no,t⟩:∃no:an,no=⟨k,(u:Int),0,false,d+5,a+D.size,m⟩:=⟨_,rfl⟩;have am:=Lib.hid t;have av:Hid (ei (bA l) a m k++optSK (bA l) a m k md (u+1)=(ei (bA l) a m k++optSK (bA l) a m k md u)++[no]):=by show _=_;rw[X.out,z.out,if_pos rfl,t]
        clear L t X z
        go_wp2_with(first
         |(go_at_call 144;refine(dL m k f g _).mono ?_;rintro e r ⟨rfl,b⟩;rw[b,x.out];clear b)
         |(go_at_call 141;refine(gB md u a1 ap _).mono ?_;rintro e P ⟨rfl,o⟩;have i:=Lib.hid (q.out.below o);rw[a8.out];clear o)
         |(go_at_call 142;refine(a9.out _ i.out.B).mono ?_;rintro e Q ⟨rfl,p⟩;rw[p];clear p)
         |(at_builtin;refine fk i.out (ar _ _) rfl _ _ rfl rfl _ _ no (by rfl) (by rw[am.out];exact nC rfl) (by have:=cr.out;omega) ?_;intro a4 a5 M))
        exact⟨⟨u+1,by omega,by go_num,by show e8 _ _ _ _ _;rw[av.out];exact M.out⟩,by simp[intOf];omega⟩
       |false=>
        rw[L]at a9 z;have av:Hid (ei (bA l) a m k++optSK (bA l) a m k md (u+1)=(ei (bA l) a m k++optSK (bA l) a m k md u)):=by show _=_;rw[X.out,z.out,if_neg oS,List.append_nil]
        clear L X z
        go_wp2_with(first
         |(go_at_call 144;refine(dL m k f g _).mono ?_;rintro e r ⟨rfl,b⟩;rw[b,x.out];clear b)
         |(go_at_call 141;refine(gB md u a1 ap _).mono ?_;rintro e P ⟨rfl,o⟩;have i:=Lib.hid (q.out.below o);rw[a8.out];clear o)
         |(go_at_call 142;refine(a9.out _ i.out.B).mono ?_;rintro e Q ⟨rfl,p⟩;rw[p];clear p))
        exact⟨⟨u+1,by omega,by go_num,by show e8 _ _ _ _ _;rw[av.out];exact i.out⟩,by simp[intOf];omega⟩
      ·have a8:Hid (dw md u=ByteArray.empty):=by show _=_;unfold dw;rw[if_neg c1]
       have av:Hid (ei (bA l) a m k++optSK (bA l) a m k md (u+1)=(ei (bA l) a m k++optSK (bA l) a m k md u)):=by
        show _=_;rw[X.out];unfold eW;rw[if_neg (λh=>c1 h.1),List.append_nil]
       clear c1 X
       go_wp2_with(first
        |(go_at_call 144;refine(dL m k f g _).mono ?_;rintro e r ⟨rfl,b⟩;rw[b,x.out];clear b)
        |(go_at_call 141;refine(gB md u a1 ap _).mono ?_;rintro e P ⟨rfl,o⟩;have i:=Lib.hid (q.out.below o);rw[a8.out];clear o)
        |(go_at_call 142;refine(K.out _ i.out.B).mono ?_;rintro e Q ⟨rfl,p⟩;rw[p];clear p))
       exact⟨⟨u+1,by omega,by go_num,by show e8 _ _ _ _ _;rw[av.out];exact i.out⟩,by simp[intOf];omega⟩
     ·obtain rfl:u=32:=oO
      go_wp2_with(first
       |(go_at_call 144;refine(dL m k f g _).mono ?_;rintro e r ⟨rfl,b⟩;rw[b,x.out];clear b))
      exact⟨⟨k+1,by omega,by go_num,by show e8 _ _ _ _ _;rw[B.out];exact q.out⟩,by simp[intOf];omega⟩
   have x:Hid (fA m k=-1):=by show _=_;unfold fA;rw[<-s,if_neg U]
   have B:Hid (ei (bA l) a m (k+1)=ei (bA l) a m k):=by show _=_;rw[H.out];unfold l3;rw[<-s,if_neg G,if_neg N,if_neg U,List.append_nil]
   clear s J G N U H
   go_wp2_with(first
    |(go_at_call 141;refine(gB m k f g _).mono ?_;rintro e P ⟨rfl,o⟩;have i:=Lib.hid (q.out.below o);rw[V.out];clear o)
    |(go_at_call 142;refine(K.out _ i.out.B).mono ?_;rintro e Q ⟨rfl,p⟩;rw[p];clear p)
    |(go_at_call 143;refine(kC m k f g _).mono ?_;rintro e r ⟨rfl,b⟩;rw[b,T.out];clear b)
    |(go_at_call 144;refine(dL m k f g _).mono ?_;rintro e r ⟨rfl,b⟩;rw[b,x.out];clear b))
   go_loopw [7,11] (λy F wr=>F= .int .i64 0/\Hid (e8 d w wr y (ei (bA l) a m (k+1)))) (λ_ _ _=>0)
   case atStart=>exact⟨rfl,by show e8 _ _ _ _ _;rw[B.out];exact i.out⟩
   case round=>
    obtain⟨rfl,S⟩:=hrel
    go_wp2_with(first
     |(go_at_call 144;refine(dL m k f g _).mono ?_;rintro e r ⟨rfl,b⟩;rw[b,x.out];clear b))
    exact⟨⟨k+1,by omega,by go_num,S.out⟩,by simp[intOf];omega⟩
  ·have b5:k=E:=oO;obtain⟨C,bv⟩:∃C,C=uH (bA l) a m:=⟨_,rfl⟩;have b6:C=if m<=2 then min 2078 (n-a)else 0:=by rw[bv];unfold uH;rw[co.out]
   have b7:Hid (e8 d w wr u7 (ei (bA l) a m (2^d)++nF a m 0)):=by show e8 _ _ _ _ _;rw[show nF a m 0=[]from rfl,List.append_nil,bq.out,<-b5];exact q.out
   have cs:Hid ((ei (bA l) a m (2^d)).length<=1024):=by
    show _<=_;have h:=oX (bA l) a m E;rw[bq.out];omega
   have bb:Hid (dp (bA l) a m=ei (bA l) a m (2^d)++nF a m C):=by show _=_;unfold dp;rw[<-ad.out,<-bv]
   have Y:=Lib.hid b6;clear bq q bv b6;generalize ei (bA l) a m (2^d)=a6 at*;go_wp2_with fail
   go_loopw [7,12] (λy O wr=>∃j:Nat,j<=C/\O= .int .i64 ((j:Int)+1)/\Hid (e8 d w wr y (a6++nF a m j))) (λ_ O _=>C+1-(intOf O).toNat)
   case atStart=>exact⟨0,Nat.zero_le _,rfl,b7.out⟩
   case round=>
    clear b7 cp b5 b4;obtain⟨j,c4,rfl,q⟩:=hrel;by_cases b8:m<=2
    ·have bd:C=min 2078 (n-a):=by rw[Y.out,if_pos b8]
     have ch:decide ((m:Int)<=2)=true:=by simp;omega
     have c5:j<=2078:=oO;by_cases b4:j<C
     ·have b2:decide ((j:Int)+1<=2078)=true:=by simp;omega
      have ci:decide ((a:Int)+((j:Int)+1)<=(n:Int))=true:=by simp;omega
      have b9:Hid ((a6++nF a m j).length<=4000):=by
       show _<=_;have cg:=cs.out;rw[List.length_append,r5];omega
      have bt:d=5:=by have:=ad.out;unfold aj at this;rw[if_neg oO]at this;exact this
      subst bt;obtain⟨no,t⟩:∃no:an,no=oz a m (j+1):=⟨_,rfl⟩;have B:Hid (a6++nF a m (j+1)=(a6++nF a m j)++[no]):=by show _=_;rw[List.append_assoc,t];rfl
      by_cases ca:31<j+1
      ·have ck:decide ((31:Int)<(j:Int)+1)=true:=by simp;omega
       have bx:Hid (di 5 no=[.int .i64 31,.int .i64 0,.int .i64 ((j:Int)+1-31),.int .i64 0,.int .i64 5,.int .i64 5,.int .i64 11,.int .i64 0,.int .i64 (21+8* ((j:Int)+1)),.int .i64 ((a:Int)+((j:Int)+1)),.int .i64 (m:Int)]):=by
        show _=_;rw[t];unfold oz;rw[if_pos ca];simp[di,an.v1,an.v2,an.w1,an.w2];omega
       clear t Y bd;go_wp2_with(at_builtin;refine fk q.out (ae (ar _ _) _) rfl _ _ rfl rfl _ _ no (by rfl) (by rw[bx.out];exact nC oS) (by have:=b9.out;omega) ?_;intro a4 a5 M)
       exact⟨⟨j+1,by omega,by go_num,by show e8 _ _ _ _ _;rw[B.out];exact M.out⟩,by simp[intOf];omega⟩
      ·have ck:decide ((31:Int)<(j:Int)+1)=false:=by simp;omega
       have bx:Hid (di 5 no=[.int .i64 31,.int .i64 ((j:Int)+1),.int .i64 0,.int .i64 0,.int .i64 5,.int .i64 5,.int .i64 0,.int .i64 0,.int .i64 (10+8* ((j:Int)+1)),.int .i64 ((a:Int)+((j:Int)+1)),.int .i64 (m:Int)]):=by
        show _=_;rw[t];unfold oz;rw[if_neg ca];simp[di,an.v1,an.v2,an.w1,an.w2]
       clear t Y bd;go_wp2_with(at_builtin;refine fk q.out (ae (ar _ _) _) rfl _ _ rfl rfl _ _ no (by rfl) (by rw[bx.out];exact nC oS) (by have:=b9.out;omega) ?_;intro a4 a5 M)
       exact⟨⟨j+1,by omega,by go_num,by show e8 _ _ _ _ _;rw[B.out];exact M.out⟩,by simp[intOf];omega⟩
     ·have a0:j=C:=oO;have a7:Hid (e8 d w wr u7 (dp (bA l) a m)):=by show e8 _ _ _ _ _;rw[bb.out,<-a0];exact q.out
      clear q Y bb;by_cases c7:j<2078
      ·have b2:decide ((j:Int)+1<=2078)=true:=by simp;omega
       have ci:decide ((a:Int)+((j:Int)+1)<=(n:Int))=false:=by simp;omega
       clear bd a0;go_wp2_with fail
       go_ret;exact⟨_,rfl,a7.out⟩
      ·have b2:decide ((j:Int)+1<=2078)=false:=by simp;omega
       clear bd a0;go_wp2_with fail
       go_ret;exact⟨_,rfl,a7.out⟩
    ·have ch:decide ((m:Int)<=2)=false:=by simp;omega
     have a0:C=0:=by rw[Y.out,if_neg b8]
     have a7:Hid (e8 d w wr u7 (dp (bA l) a m)):=by show e8 _ _ _ _ _;rw[bb.out,show C=j from by omega];exact q.out
     clear q Y bb a0;go_wp2_with fail
     go_ret;exact⟨_,rfl,a7.out⟩
end
end Go.Proofs.YtmnlkganmgcpbaaGreatDoor
