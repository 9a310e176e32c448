import Derived.Test.YtmnlkganmgcpbaaGreatDoorQm3
import Derived.Maps.OwnOps
set_option maxRecDepth 100000
set_option maxHeartbeats 4000000
set_option linter.unusedVariables false
set_option linter.unusedSectionVars false
set_option linter.unusedSimpArgs false
namespace Go.Proofs.YtmnlkganmgcpbaaGreatDoor
section
open Go.RowKit
def eY (C:Nat->Nat->Nat) (num at_ m:Nat):Nat->ay
 |0=>⟨0,0,0,false,1073741824,at_,m⟩
 |k+1=>cY C num at_ m (eY C num at_ m k) (31+k) (az m+16) true
def dG (C:Nat->Nat->Nat) (num at_ m K:Nat):Nat->ay
 |0=>eY C num at_ m K
 |k+1=>cY C num at_ m (dG C num at_ m K k) (1+k) (az m+5) false
def eU (C:Nat->Nat->Nat) (num at_ m left:Nat):ay:=dG C num at_ m (min left 2078-30) (min left 31)
def okO (p:ByteArray) (a:ay):Prop:=a.at_<=p.size/\a.mode<5/\a.size<=1073741824/\a.run<=4096
theorem jh (m:Nat):az m<=5:=by unfold az;split<;>omega
theorem DO {C:Nat->Nat->Nat} {num at_ m:Nat} {a:ay} {n sz:Nat} {lg:Bool} {p:ByteArray} (h:okO p a) (b:at_+n<=p.size) (c:m<5) (d:sz<=100) (e:p.size<=4096):okO p (cY C num at_ m a n sz lg):=by
 unfold cY;split
 ·exact⟨b,c,by show sz+8* n<=_;omega,by show n<=_;omega⟩
 ·exact h
theorem uK {C:Nat->Nat->Nat} {num at_ m:Nat} {p:ByteArray} (b:at_<=p.size) (a:m<5) (c:p.size<=4096):∀k,at_+30+k<=p.size\/k=0->okO p (eY C num at_ m k)
 |0,_=>⟨b,a,Nat.le_refl _,by show 0<=_;omega⟩
 |k+1,h=>DO (uK b a c k oO) oO a (by have:=jh m;omega) c
theorem sF {C:Nat->Nat->Nat} {num at_ m:Nat} {p:ByteArray} (K:Nat) (c:at_<=p.size) (a:m<5) (b:p.size<=4096) (d:at_+30+K<=p.size\/K=0):∀k,at_+k<=p.size->okO p (dG C num at_ m K k)
 |0,_=>uK c a b K d
 |k+1,h=>DO (sF K c a b d k oO) oO a (by have:=jh m;omega) b
structure FS (w wr:World) (a b cap hb:Nat) (p:ByteArray) (C:Nat->Nat->Nat) (num at_ m:Nat):Prop where
 B:Below w.heap.size w wr
 S:SW wr a b cap hb p C
 X:an wr w.heap.size [.pointer (some ⟨a,0,none⟩)]
 F:an wr (w.heap.size+1) [.int .i64 (at_:Int),.int .i64 (m:Int)]
 N:an wr (w.heap.size+2) [.int .i64 (num:Int)]
 Z:ae wr (w.heap.size+3) (ay.aC ⟨0,0,0,false,0,0,0⟩).toArray 181
structure BS (w wr:World) (a b cap hb:Nat) (p:ByteArray) (C:Nat->Nat->Nat) (num at_ m:Nat) (c:ay):Prop extends FS w wr a b cap hb p C num at_ m where
 O:ae wr (w.heap.size+4) c.aC.toArray 181
theorem FS.below {w wr a:World} {b c cap hb:Nat} {p:ByteArray} {C:Nat->Nat->Nat} {num at_ m:Nat} (h:FS w wr b c cap hb p C num at_ m) (hB:Below wr.heap.size wr a):FS w a b c cap hb p C num at_ m:=
 ⟨aa h.B hB,h.S.below hB,h.X.below hB,h.F.below hB,h.N.below hB,h.Z.below hB⟩
theorem oI {P:Program} {w:World} {d:Array Oper} {e:List Oper} {b:Oper} {a:Act} {Q:Exit->Act->World->Prop} (k:b.guard=none) (t:TypeId) (f:b.op= .alloc t)
 (c:Array Value) (i:(P.info? t).map (·.zero)=some (some (.agg c))) (g:Nat) (hg:g=w.heap.size)
 (j:wpList P d Q e (a.put b.dst (.pointer (some ⟨g,0,none⟩))) (w.alloc (.cells c t))):wpList P d Q (b::e) a w:=by
 subst hg;exact aX k t f c i j
theorem FS.start (w:World) (a b cap hb:Nat) (p:ByteArray) (C:Nat->Nat->Nat) (num at_ m:Nat) (c d e:TypeId) (h:SW w a b cap hb p C):
 FS w ((((w.alloc (.cells #[.pointer (some ⟨a,0,none⟩)] c)).alloc (.cells #[.int .i64 (at_:Int),.int .i64 (m:Int)] d)).alloc (.cells #[.int .i64 (num:Int)] e)).alloc (.cells (ay.aC ⟨0,0,0,false,0,0,0⟩).toArray 181)) a b cap hb p C num at_ m:=by
 refine⟨ah (ah (ah (ax _ _) _) _) _,(((h.below (ax _ _)).below (ax _ _)).below (ax _ _)).below (ax _ _),?_,?_,?_,ae.new _ _ _ _ oS⟩
 ·exact((an.new w #[.pointer (some ⟨a,0,none⟩)] c _ rfl).alloc _).alloc _|>.alloc _
 ·exact((an.new (w.alloc _) #[.int .i64 (at_:Int),.int .i64 (m:Int)] d (w.heap.size+1) oS).alloc _).alloc _
 ·exact(an.new ((w.alloc _).alloc _) #[.int .i64 (num:Int)] e (w.heap.size+2) oS).alloc _
theorem an.lower {W a:World} {b B:Nat} {c:List Value} (h:an W b c) (hb:Below B W a) (hl:b<B):an a b c:=
 ⟨Nat.lt_of_lt_of_le h.1 hb.size,λi d=>(hb.cell hl).trans (h.2 i d)⟩
theorem ae.lower {W a:World} {g B:Nat} {b:Array Value} {t:TypeId} (h:ae W g b t) (hb:Below B W a) (hl:g<B):ae a g b t:=(hb.block _ hl).trans h
theorem SW.lower {w W:World} {c e cap hb B:Nat} {p:ByteArray} {C:Nat->Nat->Nat} (h:SW w c e cap hb p C) (b:Below B w W) (d:c<B) (f:e<B):SW W c e cap hb p C:=
 ⟨Nat.lt_of_lt_of_le h.lt b.size,(b.cell d).trans h.c0,λi v g=>(b.cell (p:=⟨c,1+i,none⟩) d).trans (h.ct i v g),(b.cell d).trans h.cc,(b.cell d).trans h.cm,Nat.lt_of_lt_of_le h.cl b.size,
  λa m j k=>(b.cell f).trans (h.cz a m j k),h.hc,h.hp,h.b⟩
theorem BS.step {w wr a:World} {b c cap hb:Nat} {p:ByteArray} {C:Nat->Nat->Nat} {num at_ m:Nat} {f d:ay} (h:BS w wr b c cap hb p C num at_ m f) (g:b<w.heap.size) (i:c<w.heap.size)
 (e:ae a (w.heap.size+4) d.aC.toArray 181) (hB:Below (w.heap.size+4) wr a):BS w a b c cap hb p C num at_ m d:=
 ⟨⟨h.B.trans (hB.mono oO),h.S.lower hB oO oO,h.X.lower hB oO,h.F.lower hB oO,h.N.lower hB oO,h.Z.lower hB oO⟩,e⟩
theorem ur (num at_ m:Nat) (w:World) (a b cap hb:Nat) (p:ByteArray) (C:Nat->Nat->Nat) (h:SW w a b cap hb p C) (a4:at_<p.size) (r:m<5) (hn:num<32):
 Calls Tryz.prog 216 #[.pointer (some ⟨a,0,none⟩),.agg #[.int .i64 (at_:Int),.int .i64 (m:Int)],.int .i64 (num:Int)] w
  λe w'=>e= .returned (eU C num at_ m (p.size-at_)).val/\Below w.heap.size w w':=by
 have z:=h.hp;have A:=Lib.hid h;obtain⟨Y,B⟩:w.cell? ⟨a,0,none⟩=some (.string p)/\a<w.heap.size:=⟨h.c0,h.lt⟩;have N:b<w.heap.size:=h.cl;obtain⟨left,hl⟩:∃left,left=p.size-at_:=⟨_,rfl⟩;have a8:IntKind.i64.wrap ((p.size:Int)-(at_:Int))=(left:Int):=by rw[aE _ oO oO];omega
 have a9:at_+left<=p.size:=oO;have bb:1<=left:=oO;have bd:left<=4096:=oO;rw[<-hl];clear hl h;go_enter Tryz.func216,Tryz.ntmps216;go_wp2_with(refine oI rfl 181 rfl _ mh (w.heap.size+3) oS ?_)
 have u:Hid (FS w _ a b cap hb p C num at_ m):=FS.start w a b cap hb p C num at_ m 110 179 3 A.out;have D:((((w.alloc (.cells #[.pointer (some ⟨a,0,none⟩)] 110)).alloc (.cells #[.int .i64 (at_:Int),.int .i64 (m:Int)] 179)).alloc (.cells #[.int .i64 (num:Int)] 3)).alloc (.cells (ay.aC ⟨0,0,0,false,0,0,0⟩).toArray 181)).heap.size=w.heap.size+4:=by simp
 have O:=Lib.hid D;clear D;show Code.wp _ _ _ _ ((((w.alloc (.cells #[.pointer (some ⟨a,0,none⟩)] 110)).alloc (.cells #[.int .i64 (at_:Int),.int .i64 (m:Int)] 179)).alloc (.cells #[.int .i64 (num:Int)] 3)).alloc (.cells (ay.aC ⟨0,0,0,false,0,0,0⟩).toArray 181));generalize(((w.alloc (.cells #[.pointer (some ⟨a,0,none⟩)] 110)).alloc (.cells #[.int .i64 (at_:Int),.int .i64 (m:Int)] 179)).alloc (.cells #[.int .i64 (num:Int)] 3)).alloc (.cells (ay.aC ⟨0,0,0,false,0,0,0⟩).toArray 181)=i at*;have E:Hid (∀W,af i W->W.cell? ⟨w.heap.size,0,none⟩=some (.pointer (some ⟨a,0,none⟩))/\W.cell? ⟨a,0,none⟩=some (.string p)/\W.cell? ⟨w.heap.size+1,0,none⟩=some (.int .i64 (at_:Int))):=by
  show∀W,_;intro W Z;have g:=u.out.below Z;exact⟨g.X.2 0 oS,g.S.c0,g.F.2 0 oS⟩
 (try simp only[yQ,yU,yX,yY])
 clear Y A;refine yO (af i) [1,2,3,4,5,6,7,8,9] (ai (Below.refl _ _)) ?_
 repeat refine zO E.out ?_
 refine ag ?_;clear E;have t:Hid (FS w i.drew a b cap hb p C num at_ m):=u.out.below (ai (Below.refl _ _));have q:Hid (i.drew.heap.size=w.heap.size+4):=O.out;clear u O;generalize i.drew=F at*;have G:=t.out.F.2 0 oS;have H:=t.out.F.2 1 oS;simp only[List.getD,List.getElem?_cons_zero,List.getElem?_cons_succ,Option.getD_some]at G H;have be:=jh m;have P:Hid (∀k,eY C num at_ m (k+1)=cY C num at_ m (eY C num at_ m k) (31+k) (az m+16) true):=λk=>rfl;have al:Hid (∀K k,dG C num at_ m K (k+1)=cY C num at_ m (dG C num at_ m K k) (1+k) (az m+5) false):=λK k=>rfl;have am:Hid (eU C num at_ m left=dG C num at_ m (min left 2078-30) (min left 31)):=rfl;have Q:Hid (∀k,at_+30+k<=p.size\/k=0->okO p (eY C num at_ m k)):=uK oO r z;have ap:Hid (∀K,at_+30+K<=p.size\/K=0->∀k,at_+k<=p.size->okO p (dG C num at_ m K k)):=λK s=>sF K oO r z s;go_wp2_with(first|(go_at_call 132;refine(kf m _).mono ?_;rintro e w' ⟨rfl,S⟩;rw[S];clear S;generalize az m=J at*)|(refine oI rfl 181 rfl _ mh (w.heap.size+4) q.out.symm ?_)|(rw[<-q.out];refine bm rfl 181 _ _ rfl 181 _ (ay.aC ⟨0,0,0,false,1073741824,at_,m⟩) rfl rfl fD rfl (ay.one _) ?_))
 rw[q.out];have T:Hid (BS w (F.alloc (.cells (ay.aC ⟨0,0,0,false,1073741824,at_,m⟩).toArray 181)) a b cap hb p C num at_ m (eY C num at_ m 0)):=⟨t.out.below (ax _ _),ae.new _ _ _ _ q.out.symm⟩;clear q t G H;generalize F.alloc (.cells (ay.aC ⟨0,0,0,false,1073741824,at_,m⟩).toArray 181)=a5 at*;obtain⟨K,s⟩:∃K,K=min left 2078:=⟨_,rfl⟩;have ab:=Lib.hid s;have bf:K<=2078:=oO;have bi:K<=left:=oO;have av:min (left:Int) 2078=(K:Int):=oO;clear s;go_loopw [11] (λd wr=>∃k:Nat,(31+k<=K+1\/k=0)/\d= .int .i64 ((31+k:Nat):Int)/\Hid (BS w wr a b cap hb p C num at_ m (eY C num at_ m k))) (λd _=>K+1-(intOf d).toNat)
 case atStart=>exact⟨0,.inr rfl,rfl,T.out⟩
 case round=>
  clear T;obtain⟨k,ac,rfl,hB⟩:=hrel;by_cases a0:31+k<=K
  ·have c:Hid (okO p (eY C num at_ m k)):=Q.out k oO;have v:=Lib.hid (P.out k);go_wp2_with(go_at_call 228;(refine(DG (31+k) (J+16) num at_ m true (eY C num at_ m k) wr a b cap hb _ _ _ _ p C hB.out.S hB.out.N hB.out.F hB.out.X hB.out.O oO r oO c.out.1 c.out.2.1 c.out.2.2.1 hn c.out.2.2.2).mono ?_;rintro e ad ⟨rfl,n,o⟩;have x:=Lib.hid (hB.out.step B N n o);clear n o))
   refine⟨⟨k+1,by omega,by go_num,?_⟩,by simp[intOf];omega⟩;rw[v.out];exact x.out
  ·have U:k=K-30:=oO;have V:Hid (BS w wr a b cap hb p C num at_ m (dG C num at_ m (K-30) 0)):=by
    show BS _ _ _ _ _ _ _ _ _ _ _ (eY C num at_ m (K-30));rw[<-U];exact hB.out
   clear hB U Q P;have bo:(K:Int)<((31+k:Nat):Int):=oO;clear a0 ac;generalize((31+k:Nat):Int)=a6 at*;obtain⟨L,M⟩:∃L,L=min left 31:=⟨_,rfl⟩;have a1:=Lib.hid M;have bq:L<=31:=oO;have bs:L<=left:=oO;have bt:min (left:Int) 31=(L:Int):=oO;clear M;have a2:Hid (∀j,at_+j<=p.size->okO p (dG C num at_ m (K-30) j)):=ap.out (K-30) oO;go_wp2;clear av;go_loopw [12] (λd wr=>∃j:Nat,j<=L/\d= .int .i64 ((1+j:Nat):Int)/\Hid (BS w wr a b cap hb p C num at_ m (dG C num at_ m (K-30) j))) (λd _=>L+1-(intOf d).toNat)
   case atStart=>exact⟨0,by omega,rfl,V.out⟩
   case round=>
    clear V;obtain⟨j,a7,rfl,hB⟩:=hrel;by_cases bv:1+j<=L
    ·have c:Hid (okO p (dG C num at_ m (K-30) j)):=a2.out j oO;have v:=Lib.hid (al.out (K-30) j);go_wp2_with(go_at_call 228;(refine(DG (1+j) (J+5) num at_ m false (dG C num at_ m (K-30) j) wr a b cap hb _ _ _ _ p C hB.out.S hB.out.N hB.out.F hB.out.X hB.out.O oO r oO c.out.1 c.out.2.1 c.out.2.2.1 hn c.out.2.2.2).mono ?_;rintro e ad ⟨rfl,n,o⟩;have x:=Lib.hid (hB.out.step B N n o);clear n o))
     refine⟨⟨j+1,by omega,by go_num,?_⟩,by simp[intOf];omega⟩;rw[v.out];exact x.out
    ·have X:j=L:=oO;have l:Hid (BS w wr a b cap hb p C num at_ m (eU C num at_ m left)):=by
      have g:=hB.out;rw[X,a1.out,ab.out,<-am.out]at g;exact g
     clear hB X;obtain⟨f,y⟩:∃f,f=eU C num at_ m left:=⟨_,rfl⟩;rw[<-y]at l;have a3:=Lib.hid y;clear y;go_wp2_with(first|(refine bD rfl 181 _ rfl _ Tryz.underlying181 rfl ⟨w.heap.size+4,0,none⟩ f.aC fD rfl (og l.out.O.cells) ?_)|(refine cB rfl 181 _ _ rfl 181 (w.heap.size+3) 0 _ f.aC rfl rfl l.out.Z fD (by show 7<=7;omega) f.one ?_;rw[jx _ f.aC (by rfl)]))
     (try simp only[Exit.inBlock,Exit.then])
     refine bodyPost_ret (results_cell_row rfl _ _ (w.heap.size+3) 181 f.aC.toArray (0,0) _ rfl (l.out.Z.set _) Tryz.underlying181 rfl fD) rfl ?_;exact⟨by rw[<-a3.out];rfl,below_setRow l.out.B oO _⟩
def preB (p:ByteArray) (at_:Nat) (t:ByteArray):Bool:=Lib.hasPrefix (p.extract at_ p.size).data.toList t.data.toList
def l9 (p:ByteArray) (at_ m n md s:Nat):List ay:=
 if dU md s=1/\preB p at_ (iC md s)=true then[⟨n,(s:Int),0,false,az m+az md,at_+(iC md s).size,m⟩]else[]
def optSK (p:ByteArray) (at_ m n md:Nat):Nat->List ay
 |0=>[]
 |k+1=>optSK p at_ m n md k++l9 p at_ m n md k
def dX (C:Nat->Nat->Nat) (p:ByteArray) (at_ m n:Nat):List ay:=
 if dU m n=1 then(if preB p at_ (iC m n)=true then[⟨n,-1,0,false,az m,at_+(iC m n).size,m⟩]else[])
 else if dU m n=2 then[⟨n,-1,0,false,az m,at_,modeF m n⟩]
 else if dU m n=3 then optSK p at_ m n (modeF m n) 32
 else if dU m n=4 then[eU C n at_ m (p.size-at_)]
 else[]
def bI (C:Nat->Nat->Nat) (p:ByteArray) (at_ m:Nat):Nat->List ay
 |0=>[]
 |k+1=>bI C p at_ m k++dX C p at_ m k
theorem IL (p:ByteArray) (at_ m n md s:Nat):(l9 p at_ m n md s).length<=1:=by unfold l9;split<;>simp
theorem rP (p:ByteArray) (at_ m n md:Nat):∀k,(optSK p at_ m n md k).length<=k
 |0=>Nat.le_refl _
 |k+1=>by
  have a:=rP p at_ m n md k;have b:=IL p at_ m n md k;unfold optSK;rw[List.length_append];omega
theorem Ji (C:Nat->Nat->Nat) (p:ByteArray) (at_ m n:Nat):(dX C p at_ m n).length<=32:=by
 have h:=rP p at_ m n (modeF m n) 32;unfold dX;generalize optSK p at_ m n (modeF m n) 32=l at*;generalize eU C n at_ m (p.size-at_)=q;generalize preB p at_ (iC m n)=z;generalize dU m n=a;by_cases b:a=1
 ·rw[if_pos b];cases z<;>simp
 ·rw[if_neg b];by_cases c:a=2
  ·rw[if_pos c];simp
  ·rw[if_neg c];by_cases d:a=3
   ·rw[if_pos d];exact h
   ·rw[if_neg d];split<;>simp
theorem qD (C:Nat->Nat->Nat) (p:ByteArray) (at_ m:Nat):∀k,(bI C p at_ m k).length<=32* k
 |0=>Nat.le_refl _
 |k+1=>by
  have a:=qD C p at_ m k;have b:=Ji C p at_ m k;unfold bI;rw[List.length_append];omega
theorem uv (m n:Nat):modeF m n<5:=by unfold modeF;split<;>omega
theorem r8:∀m,m<5->∀n,n<32->(iC m n).size<=2:=of_decide_eq_true oK
theorem IV:(Tryz.prog.info? 181).map (λi=>(i.zero,i.size,i.bytes))=some (some (.agg #[.int .i64 0,.int .i64 0,.int .i64 0,.bool false,.int .i64 0,.int .i64 0,.int .i64 0]),7,56):=oK
structure iV (w wr:World) (v:Value) (l:List ay):Prop where
 B:af w wr
 O:wr.ownsRow w.heap.size 181 7 v l.length (l.flatMap ay.aC)
theorem iV.start (w wr:World) (h:af w wr):iV w wr (.slice none 0 0) []:=⟨h,World.ownsRow_nil _ _ _ _⟩
theorem iV.below {w wr W:World} {v:Value} {l:List ay} (h:iV w wr v l) (a:Below wr.heap.size wr W):iV w W v l:=⟨aa h.B a,ao h.O a⟩
theorem iV.lift {w b wr:World} {v:Value} {l:List ay} (h:iV b wr v l) (c:af w b):iV w wr v l:=by
 refine⟨aa c h.B,h.O.1,?_⟩;rcases h.O.2 with a|⟨g,cap,f,d,a,e⟩
 ·exact .inl a
 ·exact .inr ⟨g,cap,f,d,Nat.le_trans c.size a,e⟩
theorem uS {w wr W:World} {v:Value} {l:List ay} (h:iV w wr v l) (d:Below wr.heap.size wr W) (e:TypeId) (b:Addr) (c:Nat) (x:ay) (hc:∀j u,x.aC[j]?=some u->W.cell? (b.add j)=some u) (hl:l.length<=5000):
 ∃a w',(Builtin.append_ #[218,218] e #[v,.slice (some b) 1 c]).run Tryz.prog W= .ok a w'/\iV w w' a (l++[x])/\W.grownBy w' v.ownBlock/\(a.ownBlock=v.ownBlock\/a.ownBlock=some W.heap.size):=by
 obtain⟨i,m,q,r,s⟩:=info_parts IV;have f:=ao h.O d;have hB:=aa h.B d;obtain⟨a,w',t,n,g,_,o⟩:=run_append_own_at (P:=Tryz.prog) W w.heap.size 218 e 181 i _ 7 56 Tryz.underlying218 m q r s rfl oO v l.length _ f b 1 c x.aC (by rfl) hc (ay.one x) oM oO hB.size;refine⟨a,w',t,⟨hB.grown g hB.size (λk p=>(f.lt k p).1),?_⟩,g,o⟩;rw[List.length_append,List.flatMap_append,List.flatMap_singleton];exact n
theorem ko {f:Array Oper} {g:List Oper} {b:Oper} {a:Act} {Q:Exit->Act->World->Prop} {w wr W:World} {v:Value} {l:List ay} (h:iV w wr v l) (i:Below wr.heap.size wr W) (q:b.guard=none) (s y:Operand)
 (k:b.op= .call {callee:= .builtin .append,args:=#[s,y],argTypes:=#[218,218]}) (hs:a.eval s=v) (e:Addr) (c:Nat) (x:ay) (m:a.eval y= .slice (some e) 1 c)
 (hc:∀j u,x.aC[j]?=some u->W.cell? (e.add j)=some u) (hl:l.length<=5000) (n:∀d w',Hid (iV w w' d (l++[x]))->wpList Tryz.prog f Q g (a.put b.dst d) w'):wpList Tryz.prog f Q (b::g) a W:=by
 refine wpList_plain q λK o=>?_;obtain⟨d,w',r,p,t⟩:=uS h i b.type e c x hc hl;unfold Oper.wp execOp;simp only[k,resolve,invoke,builtin,Sem.run_bind,Sem.run_pure,Result.andThen_ok,List.map_toArray,List.map_cons,List.map_nil,hs,m,r];exact o _ _ (n d w' p)
theorem vn {d:Oper} {a:Act} {w wr W:World} {v:Value} {l:List ay} (h:iV w wr v l) (f:Below wr.heap.size wr W) (s y:Operand)
 (g:d.op= .call {callee:= .builtin .append,args:=#[s,y],argTypes:=#[218,218]}) (hs:a.eval s=v) (e:Addr) (c:Nat) (x:ay) (i:a.eval y= .slice (some e) 1 c)
 (hc:∀j u,x.aC[j]?=some u->W.cell? (e.add j)=some u) (hl:l.length<=5000):∃b w',(execOp a.eval d).run Tryz.prog W= .ok (.value b) w'/\iV w w' b (l++[x])/\W.grownBy w' v.ownBlock/\(b.ownBlock=v.ownBlock\/b.ownBlock=some W.heap.size):=by
 obtain⟨b,w',n,k,m⟩:=uS h f d.type e c x hc hl;refine⟨b,w',?_,k,m⟩;unfold execOp;simp only[g,resolve,invoke,builtin,Sem.run_bind,Sem.run_pure,Result.andThen_ok,List.map_toArray,List.map_cons,List.map_nil,hs,i,n]
theorem vK {f:Array Oper} {S:World->Prop} {K:Act->World->Prop} {r:List (Bool×Nat×Oper)} {k:Nat} {d:Oper} {a:Act} {w wr W:World} {v:Value} {l:List ay} (h:iV w wr v l) (i:Below wr.heap.size wr W)
 (z:Region.wanted d (yielded f a.tmps)=true) (s y:Operand)
 (m:d.op= .call {callee:= .builtin .append,args:=#[s,y],argTypes:=#[218,218]}) (hs:a.eval s=v) (e:Addr) (c:Nat) (x:ay) (n:a.eval y= .slice (some e) 1 c)
 (hc:∀j u,x.aC[j]?=some u->W.cell? (e.add j)=some u) (hl:l.length<=5000)
 (o:∀b w',iV w w' b (l++[x])->W.grownBy w' v.ownBlock->(b.ownBlock=v.ownBlock\/b.ownBlock=some W.heap.size)->S w'/\bC Tryz.prog f S K r (a.put d.dst b) w'):bC Tryz.prog f S K ((true,k,d)::r) a W:=by
 obtain⟨b,w',A,p,q,t⟩:=vn h i s y m hs e c x n hc hl;have g:=o b w' p q t;exact gK z A g.1 g.2
theorem gH {W:World} {b:Nat} {a:List Value} (h:an W b a):∀j v,a[j]?=some v->W.cell? ((⟨b,0,none⟩:Addr).add j)=some v:=by
 intro j v c;have hl:j<a.length:=by
  rcases Nat.lt_or_ge j a.length with d|d
  ·exact d
  ·rw[List.getElem?_eq_none d]at c;cases c
 rw[add_plain,Nat.zero_add,h.2 j hl];simp[List.getD,c]
theorem ay.LY (a:ay):a.val= .agg #[.int .i64 (a.num:Int),.int .i64 a.sec,.int .i64 (a.run:Int),.bool a.long,.int .i64 (a.size:Int),.int .i64 (a.at_:Int),.int .i64 (a.mode:Int)]:=rfl
theorem nK (W:World) (x:ay) (t:TypeId) (b:Nat) (hb:b=W.heap.size):∀j u,x.aC[j]?=some u->(W.alloc (.cells x.aC.toArray t)).cell? ((⟨b,0,none⟩:Addr).add j)=some u:=og (ay.cells W x t b hb)
theorem rY {a:Act} {e:Oper} {W:World} {b g cap hb:Nat} {p:ByteArray} {C:Nat->Nat->Nat} {q:Operand} (h:SW W b g cap hb p C) (i:e.op= .load 169 q) (f m:Nat) (k:a.eval q= .pointer (some ⟨b,f,none⟩)) (l:f=1+m* 96) (n:m<5):
 (execOp a.eval e).run Tryz.prog W= .ok (.value (.agg (oG m).toArray)) W:=by
 subst l
 have o:=iR (P:=Tryz.prog) W 169 _ ⟨b,1+m* 96,none⟩ (oG m) Tryz.underlying169 rfl (by rw[qM];kernel_rfl) (λj v c=>by
  have hl:j<96:=by
   rcases Nat.lt_or_ge j 96 with d|d
   ·exact d
   ·rw[List.getElem?_eq_none (by rw[qM];exact d)]at c;cases c
  rw[add_plain,Nat.add_assoc];refine h.ct _ _ ?_
  rw[En m j n hl];exact c)
 unfold execOp;simp only[i,k,Instr.loadAt,Instr.sureAddr,Sem.run_bind,Sem.run_pure,Result.andThen_ok,o]
theorem jY {a:Act} {e:Oper} {W:World} (t:TypeId) (d:TypeDesc) (f:Tryz.prog.underlying t=some d) (g:aggD d=true) {q:Operand} (i:e.op= .load t q) (b:Nat) (c:List Value) (j:(Tryz.prog.info? t).map (·.size)=some c.length) (k:a.eval q= .pointer (some ⟨b,0,none⟩)) (h:an W b c):
 (execOp a.eval e).run Tryz.prog W= .ok (.value (.agg c.toArray)) W:=by
 have l:=iR (P:=Tryz.prog) W t d ⟨b,0,none⟩ c f g j (gH h);unfold execOp;simp only[i,k,Instr.loadAt,Instr.sureAddr,Sem.run_bind,Sem.run_pure,Result.andThen_ok,l]
theorem an.grown {W a:World} {b:Nat} {c:List Value} {row:Option Nat} (h:an W b c) (hg:W.grownBy a row) (f:∀q,row=some q->q≠b):an a b c:=
 ⟨Nat.lt_of_lt_of_le h.1 hg.size,λi d=>(hg.cell_far ⟨b,i,none⟩ h.1 (λe=>f b e.symm rfl)).trans (h.2 i d)⟩
theorem jo:(Tryz.prog.info? 168).map (·.zero)=some (some (.agg #[.int .i64 0,.int .i64 0,.string ByteArray.empty])):=oK
theorem jX:(Tryz.prog.info? 179).map (·.zero)=some (some (.agg #[.int .i64 0,.int .i64 0])):=oK
theorem dA:(Tryz.prog.info? 179).map (·.size)=some 2:=oK
theorem fX (a b:Int):∀v∈[Value.int .i64 a,.int .i64 b],v.oneCell'=true:=by
 intro v c;simp only[List.mem_cons,List.not_mem_nil,or_false]at c;rcases c with rfl|rfl<;>rfl
theorem B7 (at_ m:Nat) (w:World) (t K cap hb:Nat) (p:ByteArray) (C:Nat->Nat->Nat) (h:SW w t K cap hb p C) (cx:at_<p.size) (a9:m<5):
 Calls Tryz.prog 179 #[.pointer (some ⟨t,0,none⟩),.agg #[.int .i64 (at_:Int),.int .i64 (m:Int)]] w
  λe w'=>∃v,e= .returned v/\iV w w' v (bI C p at_ m 32):=by
 have d2:=h.hp;have cy:=Lib.hid h;have d9:(m:Int)<5:=oO;have ea:at_<=4096:=oO;have ec:at_<=p.size:=oO;have bb:Hid (an (w.alloc (.cells #[.int .i64 (at_:Int),.int .i64 (m:Int)] 179)) w.heap.size [.int .i64 (at_:Int),.int .i64 (m:Int)]):=an.new w #[.int .i64 (at_:Int),.int .i64 (m:Int)] _ _ rfl;have bo:Hid (SW (w.alloc (.cells #[.int .i64 (at_:Int),.int .i64 (m:Int)] 179)) t K cap hb p C):=h.below (ax _ _);have b6:Hid (af w (w.alloc (.cells #[.int .i64 (at_:Int),.int .i64 (m:Int)] 179))):=ax _ _;clear h cy;go_enter Tryz.func179,Tryz.ntmps179;go_wp2;generalize w.alloc (.cells #[.int .i64 (at_:Int),.int .i64 (m:Int)] 179)=E at*;have a1:Hid (∀W,af E W->W.cell? ⟨t,0,none⟩=some (.string p)/\W.cell? ⟨w.heap.size,0,none⟩=some (.int .i64 (at_:Int))/\W.cell? ⟨w.heap.size,1,none⟩=some (.int .i64 (m:Int))):=by
  show∀W,_;intro W d;have b2:=bb.out.below d;exact⟨(bo.out.below d).c0,b2.2 0 oS,b2.2 1 oS⟩
 refine yO (af E) [1,2,3,4,5,6,7,8] (ai (Below.refl _ _)) ?_
 repeat refine zO a1.out ?_
 refine ag ?_;have bd:=(a1.out E.drew (ai (Below.refl _ _))).2.2;go_wp2_with(go_at_call 132;refine(kf m _).mono ?_;rintro e w' ⟨rfl,f⟩;rw[f];clear f)
 have z:Hid (∀W,af E.drew W->W.cell? ⟨t,0,none⟩=some (.string p)/\W.cell? ⟨w.heap.size,0,none⟩=some (.int .i64 (at_:Int))/\W.cell? ⟨w.heap.size,1,none⟩=some (.int .i64 (m:Int))):=λW d=>a1.out W (aa (ai (Below.refl _ _)) d);have bq:Hid (SW E.drew t K cap hb p C):=bo.out.below (ai (Below.refl _ _));have b7:Hid (af w E.drew):=ai b6.out;have b8:Hid (an E.drew w.heap.size [.int .i64 (at_:Int),.int .i64 (m:Int)]):=bb.out.below (ai (Below.refl _ _));clear bb bo b6 a1 bd;generalize E.drew=u at*;refine yO (af u) [1,2,3,4,5,6,7,8] (ai (Below.refl _ _)) ?_;refine zO z.out ?_;refine zO z.out ?_;refine zO z.out ?_;refine zO z.out ?_;refine zO z.out ?_;refine zO z.out ?_;refine' zV rfl (λW d=>rY (bq.out.below d) rfl _ m rfl oO a9) ?_
 repeat refine zO z.out ?_
 refine ag ?_;have A:Hid (SW u.drew t K cap hb p C):=bq.out.below (ai (Below.refl _ _));have c5:Hid (af w u.drew):=ai b7.out;have b9:Hid (an u.drew w.heap.size [.int .i64 (at_:Int),.int .i64 (m:Int)]):=b8.out.below (ai (Below.refl _ _));have bs:Hid (∀W,af u.drew W->W.cell? ⟨w.heap.size,0,none⟩=some (.int .i64 (at_:Int))/\W.cell? ⟨w.heap.size,1,none⟩=some (.int .i64 (m:Int))):=λW d=>(z.out W (aa (ai (Below.refl _ _)) d)).2;have dx:Hid (∀W,af u.drew W->an W w.heap.size [.int .i64 (at_:Int),.int .i64 (m:Int)]):=λW d=>b9.out.below d;have ed:Hid (w.heap.size<u.drew.heap.size):=World.block_lt_of_cell? _ _ (bs.out u.drew (Below.refl _ _)).1;clear bq b7 z b8 b9;generalize u.drew=x at*;obtain⟨y,ca⟩:∃y,Hid (y=(oG m).toArray):=⟨_,rfl⟩;rw[<-ca.out];obtain⟨q,Z⟩:∃q,Hid (q=p.extract at_ p.size):=⟨_,rfl⟩;rw[<-Z.out];go_wp2;go_loopw [5,31] (λa2 L wr=>∃k:Nat,k<=32/\L= .int .i64 k/\Hid (iV x wr a2 (bI C p at_ m k))) (λ_ L _=>32-(intOf L).toNat)
 case atStart=>exact⟨0,Nat.zero_le _,rfl,iV.start _ _ (Below.refl _ _)⟩
 case round=>
  obtain⟨k,d3,rfl,a⟩:=hrel;by_cases B:k<32
  ·have F:Hid (y.extract (k* 3) (k* 3+3)=(vQ m k).toArray):=by show _=_;rw[ca.out];exact Db m k B
   have o:Hid (bI C p at_ m (k+1)=bI C p at_ m k++dX C p at_ m k):=rfl
   have i:Hid (dX C p at_ m k=if dU m k=1 then(if preB p at_ (iC m k)=true then[⟨k,-1,0,false,az m,at_+(iC m k).size,m⟩]else[])
    else if dU m k=2 then[⟨k,-1,0,false,az m,at_,modeF m k⟩]
    else if dU m k=3 then optSK p at_ m k (modeF m k) 32
    else if dU m k=4 then[eU C k at_ m (p.size-at_)]
    else[]):=rfl
   have a3:=Lib.hid (qD C p at_ m k);have c6:=r8 m a9 k B;have bt:=uv m k;obtain⟨a4,b3⟩:=bs.out wr a.out.B;have b4:w.heap.size<wr.heap.size:=World.block_lt_of_cell? _ _ a4;obtain⟨g,O⟩:∃g,g=dU m k:=⟨_,rfl⟩;obtain⟨md,a6⟩:∃md,md=modeF m k:=⟨_,rfl⟩;obtain⟨b,a7⟩:∃b,b=iC m k:=⟨_,rfl⟩;rw[<-O,<-a6,<-a7]at i;unfold vQ at F;rw[<-O,<-a6,<-a7]at F;rw[<-a6]at bt;rw[<-a7]at c6;clear O a6 a7;by_cases M:g=1
   ·subst M;cases n:preB p at_ b with
    |true=>
     obtain⟨no,s⟩:∃no:ay,no=⟨k,-1,0,false,az m,at_+b.size,m⟩:=⟨_,rfl⟩;have ab:=Lib.hid s;have l:Hid (bI C p at_ m (k+1)=bI C p at_ m k++[no]):=by show _=_;rw[o.out,i.out,if_pos rfl,n,if_pos rfl,s]
     have P:Hid (Lib.hasPrefix q.data.toList b.data.toList=true):=by show _=_;rw[Z.out];exact n
     have c2:IntKind.i64.wrap ((at_:Int)+(b.size:Int))=((at_+b.size:Nat):Int):=by rw[aE _ oO oO];omega
     clear n o i A s
     go_wp2_with(first
      |(go_at_call 215;refine(Tryz.strings_HasPrefix _ _ _).mono ?_;rintro e w' ⟨rfl,f⟩;rw[f,P.out];clear f)
      |(with_reducible show wpList _ _ _ (⟨_,Op.index 169 _ _,_,_,_,_⟩::_) _ _;refine dV rfl 169 _ _ rfl 32 168 Tryz.underlying169 _ Tryz.underlying168 rfl 3 eB y .i64 k k rfl rfl rfl B _ F.out ?_)
      |(with_reducible show wpList _ _ _ (⟨_,Op.alloc 168,_,_,_,_⟩::_) _ _;refine aX rfl 168 rfl _ jo ?_)
      |(with_reducible show wpList _ _ _ (⟨_,Op.alloc 179,_,_,_,_⟩::_) _ _;refine aX rfl 179 rfl _ jX ?_)
      |(with_reducible show wpList _ _ _ (⟨_,Op.store 168 _ _,_,_,_,_⟩::_) _ _;refine bm rfl 168 _ _ rfl 168 _ _ rfl rfl eB rfl (fZ _ _ _) ?_)
      |(with_reducible show wpList _ _ _ (⟨_,Op.store 179 _ _,_,_,_,_⟩::_) _ _;refine bm rfl 179 _ _ rfl 179 _ [_,_] rfl rfl dA rfl (fX _ _) ?_)
      |(with_reducible show wpList _ _ _ (⟨_,Op.load 179 _,_,_,_,_⟩::_) _ _;refine bD rfl 179 _ rfl _ Tryz.underlying179 rfl _ [_,_] dA rfl (gH (an.new _ #[_,_] _ _ oS)) ?_)
      |(at_builtin;refine ko a.out (ah (ah (ax _ _) _) _) rfl _ _ rfl rfl _ _ no (by rfl) (by rw[ab.out];exact nK _ ⟨k,-1,0,false,az m,at_+b.size,m⟩ _ _ oS) (by have:=a3.out;omega) ?_;intro a5 G N))
     exact⟨⟨k+1,by omega,by go_num,by rw[l.out];exact N.out⟩,by simp[intOf];omega⟩
    |false=>
     have l:Hid (bI C p at_ m (k+1)=bI C p at_ m k):=by show _=_;rw[o.out,i.out,if_pos rfl,n,if_neg oS,List.append_nil]
     have P:Hid (Lib.hasPrefix q.data.toList b.data.toList=false):=by show _=_;rw[Z.out];exact n
     clear n o i A
     go_wp2_with(first
      |(go_at_call 215;refine(Tryz.strings_HasPrefix _ _ _).mono ?_;rintro e w' ⟨rfl,f⟩;rw[f,P.out];clear f)
      |(with_reducible show wpList _ _ _ (⟨_,Op.index 169 _ _,_,_,_,_⟩::_) _ _;refine dV rfl 169 _ _ rfl 32 168 Tryz.underlying169 _ Tryz.underlying168 rfl 3 eB y .i64 k k rfl rfl rfl B _ F.out ?_)
      |(with_reducible show wpList _ _ _ (⟨_,Op.alloc 168,_,_,_,_⟩::_) _ _;refine aX rfl 168 rfl _ jo ?_)
      |(with_reducible show wpList _ _ _ (⟨_,Op.store 168 _ _,_,_,_,_⟩::_) _ _;refine bm rfl 168 _ _ rfl 168 _ _ rfl rfl eB rfl (fZ _ _ _) ?_))
     exact⟨⟨k+1,by omega,by go_num,by rw[l.out];exact a.out.below (ax _ _)⟩,by simp[intOf];omega⟩
   have c3:((g:Int)==1)=false:=by rw[beq_eq_false_iff_ne];omega
   by_cases be:g=2
   ·subst be;obtain⟨no,s⟩:∃no:ay,no=⟨k,-1,0,false,az m,at_,md⟩:=⟨_,rfl⟩;have ab:=Lib.hid s;have l:Hid (bI C p at_ m (k+1)=bI C p at_ m k++[no]):=by show _=_;rw[o.out,i.out,if_neg oO,if_pos rfl,s]
    clear o i A s
    go_wp2_with(first
     |(with_reducible show wpList _ _ _ (⟨_,Op.index 169 _ _,_,_,_,_⟩::_) _ _;refine dV rfl 169 _ _ rfl 32 168 Tryz.underlying169 _ Tryz.underlying168 rfl 3 eB y .i64 k k rfl rfl rfl B _ F.out ?_)
     |(with_reducible show wpList _ _ _ (⟨_,Op.alloc 168,_,_,_,_⟩::_) _ _;refine aX rfl 168 rfl _ jo ?_)
     |(with_reducible show wpList _ _ _ (⟨_,Op.store 168 _ _,_,_,_,_⟩::_) _ _;refine bm rfl 168 _ _ rfl 168 _ _ rfl rfl eB rfl (fZ _ _ _) ?_)
     |(at_builtin;refine ko a.out (ah (ax _ _) _) rfl _ _ rfl rfl _ _ no (by rfl) (by rw[ab.out];exact nK _ ⟨k,-1,0,false,az m,at_,md⟩ _ _ oS) (by have:=a3.out;omega) ?_;intro a5 G N))
    exact⟨⟨k+1,by omega,by go_num,by rw[l.out];exact N.out⟩,by simp[intOf];omega⟩
   have d4:((g:Int)==2)=false:=by rw[beq_eq_false_iff_ne];omega
   by_cases bf:g=3
   ·subst bf;have l:Hid (bI C p at_ m (k+1)=bI C p at_ m k++optSK p at_ m k md 32):=by show _=_;rw[o.out,i.out,if_neg oO,if_neg oO,if_pos rfl]
    have cb:Hid (SW (wr.alloc (.cells #[.int .i64 3,.int .i64 (md:Int),.string b] 168)) t K cap hb p C):=(A.out.below a.out.B).below (ax _ _);have D:Hid (an (wr.alloc (.cells #[.int .i64 3,.int .i64 (md:Int),.string b] 168)) wr.heap.size [.int .i64 3,.int .i64 (md:Int),.string b]):=an.new _ #[.int .i64 3,.int .i64 (md:Int),.string b] _ _ rfl;have ce:Hid (iV x (wr.alloc (.cells #[.int .i64 3,.int .i64 (md:Int),.string b] 168)) u5 (bI C p at_ m k)):=a.out.below (ax _ _);have cg:Hid (∀q,u5.ownBlock=some q->q≠wr.heap.size):=λq hq=>by have:=(a.out.O.lt q hq).2;omega
    clear o i A a
    go_wp2_with(first
     |(with_reducible show wpList _ _ _ (⟨_,Op.index 169 _ _,_,_,_,_⟩::_) _ _;refine dV rfl 169 _ _ rfl 32 168 Tryz.underlying169 _ Tryz.underlying168 rfl 3 eB y .i64 k k rfl rfl rfl B _ F.out ?_)
     |(with_reducible show wpList _ _ _ (⟨_,Op.alloc 168,_,_,_,_⟩::_) _ _;refine aX rfl 168 rfl _ jo ?_)
     |(with_reducible show wpList _ _ _ (⟨_,Op.store 168 _ _,_,_,_,_⟩::_) _ _;refine bm rfl 168 _ _ rfl 168 _ _ rfl rfl eB rfl (fZ _ _ _) ?_))
    generalize wr.alloc (.cells #[.int .i64 3,.int .i64 (md:Int),.string b] 168)=G at*;generalize wr.heap.size=r at*;have H:Hid (∀W,af G W->W.cell? ⟨r,1,none⟩=some (.int .i64 (md:Int))):=λW d=>(D.out.below d).2 1 oS;have eh:(md:Int)<5:=oO;refine yO (af G) [1,2,3,4,5,6,7,8] (ai (Below.refl _ _)) ?_;refine zO H.out ?_;refine zO H.out ?_;refine zO H.out ?_;refine zO H.out ?_;refine zO H.out ?_;refine zO H.out ?_;refine' zV rfl (λW d=>rY (cb.out.below d) rfl _ md rfl oO bt) ?_
    repeat refine zO H.out ?_
    refine ag ?_;have cr:Hid (an G.drew r [.int .i64 3,.int .i64 (md:Int),.string b]):=D.out.below (ai (Below.refl _ _));have cs:Hid (iV x G.drew u5 (bI C p at_ m k)):=ce.out.below (ai (Below.refl _ _));clear cb D ce H;generalize G.drew=c4 at*;obtain⟨S,ch⟩:∃S,Hid (S=(oG md).toArray):=⟨_,rfl⟩;rw[<-ch.out];go_wp2;go_loopw [5,81] (λa2 L wr=>∃j:Nat,j<=32/\L= .int .i64 j/\Hid (iV x wr a2 (bI C p at_ m k++optSK p at_ m k md j))/\Hid (an wr r [.int .i64 3,.int .i64 (md:Int),.string b])/\Hid (∀q,a2.ownBlock=some q->q≠r)) (λ_ L _=>32-(intOf L).toNat)
    case atStart=>exact⟨0,Nat.zero_le _,rfl,by show iV _ _ _ _;rw[show optSK p at_ m k md 0=[]from rfl,List.append_nil];exact cs.out,cr.out,cg.out⟩
    case round=>
     clear cs cr cg a4 b3 b4;obtain⟨j,d5,rfl,a,T,ac⟩:=hrel;by_cases av:j<32
     ·have ad:Hid (S.extract (j* 3) (j* 3+3)=(vQ md j).toArray):=by show _=_;rw[ch.out];exact Db md j av
      have V:Hid (optSK p at_ m k md (j+1)=optSK p at_ m k md j++l9 p at_ m k md j):=rfl;have Q:Hid (l9 p at_ m k md j=if dU md j=1/\preB p at_ (iC md j)=true then[⟨k,(j:Int),0,false,az m+az md,at_+(iC md j).size,m⟩]else[]):=rfl;have c7:=Lib.hid (rP p at_ m k md j);have dy:=r8 md bt j av;obtain⟨a4,b3⟩:=bs.out wr a.out.B;have b4:w.heap.size<wr.heap.size:=World.block_lt_of_cell? _ _ a4;obtain⟨g,O⟩:∃g,g=dU md j:=⟨_,rfl⟩;obtain⟨U,ci⟩:∃U,U=modeF md j:=⟨_,rfl⟩;obtain⟨c,a8⟩:∃c,c=iC md j:=⟨_,rfl⟩;rw[<-O,<-a8]at Q;unfold vQ at ad;rw[<-O,<-ci,<-a8]at ad;rw[<-a8]at dy;clear O ci a8;by_cases M:g=1
      ·subst M;cases n:preB p at_ c with
       |true=>
        obtain⟨no,s⟩:∃no:ay,no=⟨k,(j:Int),0,false,az m+az md,at_+c.size,m⟩:=⟨_,rfl⟩;have ab:=Lib.hid s;have al:Hid (optSK p at_ m k md (j+1)=optSK p at_ m k md j++[no]):=by show _=_;rw[V.out,Q.out,if_pos ⟨rfl,n⟩,s]
        have P:Hid (Lib.hasPrefix q.data.toList c.data.toList=true):=by show _=_;rw[Z.out];exact n
        have c2:IntKind.i64.wrap ((at_:Int)+(c.size:Int))=((at_+c.size:Nat):Int):=by rw[aE _ oO oO];omega
        have ef:IntKind.i64.wrap ((az m:Int)+(az md:Int))=((az m+az md:Nat):Int):=by have:=jh m;have:=jh md;rw[aE _ oO oO];omega
        have c8:Hid ((bI C p at_ m k++optSK p at_ m k md j).length<=2000):=by show _<=_;rw[List.length_append];have:=a3.out;have:=c7.out;omega
        clear n V Q s
        go_wp2_with(first
         |(go_at_call 215;refine(Tryz.strings_HasPrefix _ _ _).mono ?_;rintro e w' ⟨rfl,f⟩;rw[f,P.out];clear f)
         |(with_reducible show wpList _ _ _ (⟨_,Op.index 169 _ _,_,_,_,_⟩::_) _ _;refine dV rfl 169 _ _ rfl 32 168 Tryz.underlying169 _ Tryz.underlying168 rfl 3 eB S .i64 j j rfl rfl rfl av _ ad.out ?_)
         |(with_reducible show wpList _ _ _ (⟨_,Op.alloc 168,_,_,_,_⟩::_) _ _;refine aX rfl 168 rfl _ jo ?_)
         |(with_reducible show wpList _ _ _ (⟨_,Op.store 168 _ _,_,_,_,_⟩::_) _ _;refine bm rfl 168 _ _ rfl 168 _ _ rfl rfl eB rfl (fZ _ _ _) ?_)
         |(with_reducible show wpList _ _ _ (⟨_,Op.alloc 179,_,_,_,_⟩::_) _ _;refine aX rfl 179 rfl _ jX ?_)
         |(with_reducible show wpList _ _ _ (⟨_,Op.store 179 _ _,_,_,_,_⟩::_) _ _;refine bm rfl 179 _ _ rfl 179 _ [_,_] rfl rfl dA rfl (fX _ _) ?_))
        have am:Hid (iV x ((wr.alloc (.cells #[.int .i64 1,.int .i64 (U:Int),.string c] 168)).alloc (.cells #[.int .i64 ((at_:Int)+(c.size:Int)),.int .i64 (m:Int)] 179)) u5 (bI C p at_ m k++optSK p at_ m k md j)):=a.out.below (ah (ax _ _) _);have D:Hid (an ((wr.alloc (.cells #[.int .i64 1,.int .i64 (U:Int),.string c] 168)).alloc (.cells #[.int .i64 ((at_:Int)+(c.size:Int)),.int .i64 (m:Int)] 179)) r [.int .i64 3,.int .i64 (md:Int),.string b]):=(T.out.alloc _).alloc _;have a0:Hid (an ((wr.alloc (.cells #[.int .i64 1,.int .i64 (U:Int),.string c] 168)).alloc (.cells #[.int .i64 ((at_:Int)+(c.size:Int)),.int .i64 (m:Int)] 179)) (wr.heap.size+1) [.int .i64 ((at_:Int)+(c.size:Int)),.int .i64 (m:Int)]):=an.new _ #[.int .i64 ((at_:Int)+(c.size:Int)),.int .i64 (m:Int)] _ _ oS;have bz:Hid (∀q,u5.ownBlock=some q->q≠r/\q≠wr.heap.size+1):=λq hq=>⟨ac.out q hq,by have:=(a.out.O.lt q hq).2;omega⟩;clear a T ac;generalize(wr.alloc (.cells #[.int .i64 1,.int .i64 (U:Int),.string c] 168)).alloc (.cells #[.int .i64 ((at_:Int)+(c.size:Int)),.int .i64 (m:Int)] 179)=X at*;generalize wr.heap.size+1=ap at*;have J:Hid (∀W,(af x W/\an W r [.int .i64 3,.int .i64 (md:Int),.string b]/\an W ap [.int .i64 ((at_:Int)+(c.size:Int)),.int .i64 (m:Int)])->W.cell? ⟨r,1,none⟩=some (.int .i64 (md:Int))):=λW d=>d.2.1.2 1 oS;refine yO (λW=>af x W/\an W r [.int .i64 3,.int .i64 (md:Int),.string b]/\an W ap [.int .i64 ((at_:Int)+(c.size:Int)),.int .i64 (m:Int)]) [1,2,3,4,5,6,9,0,7,0,8,0,10,11,12,0,13] ⟨ai am.out.B,D.out.drew,a0.out.drew⟩ ?_;refine zO J.out ?_;refine zO J.out ?_;refine zO J.out ?_;refine zO J.out ?_;refine zO J.out ?_;refine zO J.out ?_;refine' zV rfl (λW d=>jY 179 _ Tryz.underlying179 rfl rfl ap [_,_] dA rfl d.2.2) ?_;refine zZ ?_;refine(kf md _).mono ?_;rintro e d6 ⟨rfl,f⟩;rw[f];clear f;refine⟨_,rfl,⟨ai am.out.B,D.out.drew,a0.out.drew⟩,jO ?_⟩;refine zO J.out ?_;refine' zQ rfl (by go_simp;rfl) ⟨ai am.out.B,D.out.drew,a0.out.drew⟩ ?_;have ck:Hid (iV x X.drew u5 (bI C p at_ m k++optSK p at_ m k md j)):=am.out.below (ai (Below.refl _ _));have b1:Hid (an X.drew r [.int .i64 3,.int .i64 (md:Int),.string b]):=D.out.drew;have cv:Hid (an X.drew ap [.int .i64 ((at_:Int)+(c.size:Int)),.int .i64 (m:Int)]):=a0.out.drew;clear am D a0 J;generalize X.drew=Y at*;refine' zQ (v:= .slice (some ⟨Y.heap.size,0,none⟩) 1 1) (w':=Y.alloc (.cells no.aC.toArray 181)) rfl (by rw[ab.out];go_simp;rfl) ⟨ah ck.out.B _,b1.out.alloc _,cv.out.alloc _⟩ ?_;refine' vK ck.out (ax _ _) rfl _ _ rfl rfl _ _ no rfl (nK _ no _ _ rfl) (by have:=c8.out;omega) ?_;intro a5 b5 bv hg co;have N:=Lib.hid bv;have d0:Hid (∀q,a5.ownBlock=some q->q≠r):=by
         show∀q,_;intro q hq;rcases co with e|e
         ·exact(bz.out q (by rw[<-e];exact hq)).1
         ·rw[e]at hq;injection hq with hq;have:=b1.out.1;have e2:(Y.alloc (.cells no.aC.toArray 181)).heap.size=Y.heap.size+1:=by simp
          omega
        have bx:an b5 r [.int .i64 3,.int .i64 (md:Int),.string b]:=(b1.out.alloc _).grown hg (λq hq=>(bz.out q hq).1);have cp:an b5 ap [.int .i64 ((at_:Int)+(c.size:Int)),.int .i64 (m:Int)]:=(cv.out.alloc _).grown hg (λq hq=>(bz.out q hq).2);refine⟨⟨bv.B,bx,cp⟩,?_⟩;have c9:=Lib.hid bx;clear bv hg co bx cp
        repeat refine zU ?_
        refine ag ?_;go_wp2;exact⟨⟨j+1,by omega,by go_num,by rw[al.out,<-List.append_assoc];exact N.out,c9.out,d0.out⟩,by simp[intOf];omega⟩
       |false=>
        have al:Hid (optSK p at_ m k md (j+1)=optSK p at_ m k md j):=by show _=_;rw[V.out,Q.out,n,if_neg oS,List.append_nil]
        have P:Hid (Lib.hasPrefix q.data.toList c.data.toList=false):=by show _=_;rw[Z.out];exact n
        clear n V Q
        go_wp2_with(first
         |(go_at_call 215;refine(Tryz.strings_HasPrefix _ _ _).mono ?_;rintro e w' ⟨rfl,f⟩;rw[f,P.out];clear f)
         |(with_reducible show wpList _ _ _ (⟨_,Op.index 169 _ _,_,_,_,_⟩::_) _ _;refine dV rfl 169 _ _ rfl 32 168 Tryz.underlying169 _ Tryz.underlying168 rfl 3 eB S .i64 j j rfl rfl rfl av _ ad.out ?_)
         |(with_reducible show wpList _ _ _ (⟨_,Op.alloc 168,_,_,_,_⟩::_) _ _;refine aX rfl 168 rfl _ jo ?_)
         |(with_reducible show wpList _ _ _ (⟨_,Op.store 168 _ _,_,_,_,_⟩::_) _ _;refine bm rfl 168 _ _ rfl 168 _ _ rfl rfl eB rfl (fZ _ _ _) ?_))
        exact⟨⟨j+1,by omega,by go_num,by rw[al.out];exact a.out.below (ax _ _),T.out.alloc _,ac.out⟩,by simp[intOf];omega⟩
      have c3:((g:Int)==1)=false:=by rw[beq_eq_false_iff_ne];omega
      have al:Hid (optSK p at_ m k md (j+1)=optSK p at_ m k md j):=by show _=_;rw[V.out,Q.out,if_neg (λh=>M h.1),List.append_nil]
      clear M V Q
      go_wp2_with(first
       |(with_reducible show wpList _ _ _ (⟨_,Op.index 169 _ _,_,_,_,_⟩::_) _ _;refine dV rfl 169 _ _ rfl 32 168 Tryz.underlying169 _ Tryz.underlying168 rfl 3 eB S .i64 j j rfl rfl rfl av _ ad.out ?_)
       |(with_reducible show wpList _ _ _ (⟨_,Op.alloc 168,_,_,_,_⟩::_) _ _;refine aX rfl 168 rfl _ jo ?_)
       |(with_reducible show wpList _ _ _ (⟨_,Op.store 168 _ _,_,_,_,_⟩::_) _ _;refine bm rfl 168 _ _ rfl 168 _ _ rfl rfl eB rfl (fZ _ _ _) ?_))
      exact⟨⟨j+1,by omega,by go_num,by rw[al.out];exact a.out.below (ax _ _),T.out.alloc _,ac.out⟩,by simp[intOf];omega⟩
     ·have di:j=32:=oO;have d1:Hid (iV x wr u5 (bI C p at_ m k++optSK p at_ m k md 32)):=by rw[<-di];exact a.out
      have bd:=(T.out.2 0 oS);simp only[List.getD,List.getElem?_cons_zero,Option.getD_some]at bd;clear a T ac;go_wp2;exact⟨⟨k+1,by omega,by go_num,by rw[l.out];exact d1.out⟩,by simp[intOf];omega⟩
   have d7:((g:Int)==3)=false:=by rw[beq_eq_false_iff_ne];omega
   by_cases bi:g=4
   ·subst bi;have l:Hid (bI C p at_ m (k+1)=bI C p at_ m k++[eU C k at_ m (p.size-at_)]):=by show _=_;rw[o.out,i.out,if_neg oO,if_neg oO,if_neg oO,if_pos rfl]
    have dl:Hid (∀W,af wr W->SW W t K cap hb p C):=λW d=>A.out.below (aa a.out.B d);clear o i A
    go_wp2_with(first
     |(with_reducible show wpList _ _ _ (⟨_,Op.index 169 _ _,_,_,_,_⟩::_) _ _;refine dV rfl 169 _ _ rfl 32 168 Tryz.underlying169 _ Tryz.underlying168 rfl 3 eB y .i64 k k rfl rfl rfl B _ F.out ?_)
     |(with_reducible show wpList _ _ _ (⟨_,Op.alloc 168,_,_,_,_⟩::_) _ _;refine aX rfl 168 rfl _ jo ?_)
     |(with_reducible show wpList _ _ _ (⟨_,Op.store 168 _ _,_,_,_,_⟩::_) _ _;refine bm rfl 168 _ _ rfl 168 _ _ rfl rfl eB rfl (fZ _ _ _) ?_)
     |(with_reducible show wpList _ _ _ (⟨_,Op.load 179 _,_,_,_,_⟩::_) _ _;refine bD rfl 179 _ rfl _ Tryz.underlying179 rfl ⟨w.heap.size,0,none⟩ [.int .i64 (at_:Int),.int .i64 (m:Int)] dA rfl (gH ((dx.out wr a.out.B).alloc _)) ?_)
     |(go_at_call 216;refine(ur k at_ m _ t K cap hb p C (dl.out _ (ax _ _)) cx a9 B).mono ?_;rintro e c4 ⟨rfl,cq⟩;have ds:=Lib.hid ((ax _ _).trans (cq.mono oS));clear cq;generalize eU C k at_ m (p.size-at_)=no at*;rw[no.LY])
     |(at_builtin;refine ko a.out (ah ds.out _) rfl _ _ rfl rfl _ _ no (by rfl) (nK _ no _ _ oS) (by have:=a3.out;omega) ?_;intro a5 G N))
    exact⟨⟨k+1,by omega,by go_num,by rw[l.out];exact N.out⟩,by simp[intOf];omega⟩
   have d8:((g:Int)==4)=false:=by rw[beq_eq_false_iff_ne];omega
   have l:Hid (bI C p at_ m (k+1)=bI C p at_ m k):=by show _=_;rw[o.out,i.out,if_neg M,if_neg be,if_neg bf,if_neg bi,List.append_nil]
   clear M be bf bi o i A
   go_wp2_with(first
    |(with_reducible show wpList _ _ _ (⟨_,Op.index 169 _ _,_,_,_,_⟩::_) _ _;refine dV rfl 169 _ _ rfl 32 168 Tryz.underlying169 _ Tryz.underlying168 rfl 3 eB y .i64 k k rfl rfl rfl B _ F.out ?_)
    |(with_reducible show wpList _ _ _ (⟨_,Op.alloc 168,_,_,_,_⟩::_) _ _;refine aX rfl 168 rfl _ jo ?_)
    |(with_reducible show wpList _ _ _ (⟨_,Op.store 168 _ _,_,_,_,_⟩::_) _ _;refine bm rfl 168 _ _ rfl 168 _ _ rfl rfl eB rfl (fZ _ _ _) ?_))
   exact⟨⟨k+1,by omega,by go_num,by rw[l.out];exact a.out.below (ax _ _)⟩,by simp[intOf];omega⟩
  ·have dv:k=32:=oO;have l:Hid (iV w wr u5 (bI C p at_ m 32)):=by rw[<-dv];exact a.out.lift c5.out
   clear a A;go_wp2;go_ret;exact⟨_,rfl,l.out⟩
end
section
open Go.RowKit Go.WideMaps Go.Maps
def FZ (W:World) (b n:Nat):Prop:=b<W.heap.size/\∀i,i<n->W.frozen? ⟨b,i,none⟩=false
theorem FZ.below {W a:World} {b n:Nat} (h:FZ W b n) (hb:Below W.heap.size W a):FZ a b n:=⟨Nat.lt_of_lt_of_le h.1 hb.size,λi c=>(hb.frozen h.1).trans (h.2 i c)⟩
theorem FZ.set {W:World} {b n:Nat} (h:FZ W b n) (a:Addr) (u:Value):FZ (W.setCell a u) b n:=⟨by simpa using h.1,λi c=>by rw[World.frozen?_setCell];exact h.2 i c⟩
theorem FZ.grown {W a:World} {b n:Nat} {row:Option Nat} (h:FZ W b n) (hg:W.grownBy a row) (d:some b≠row):FZ a b n:=⟨Nat.lt_of_lt_of_le h.1 hg.size,λi c=>(hg.frozen_far ⟨b,i,none⟩ h.1 d).trans (h.2 i c)⟩
theorem FZ.new (W:World) (xs:Array Value) (t:TypeId) (b n:Nat) (hb:b=W.heap.size):FZ (W.alloc (.cells xs t)) b n:=⟨by simp;omega,λi _=>World.frozen?_alloc_at _ _ _ _ hb⟩
theorem an.set {W:World} {b:Nat} {a:List Value} (h:an W b a) (i:Nat) (u:Value) (d:i<a.length):an (W.setCell ⟨b,i,none⟩ u) b (a.set i u):=by
 refine⟨by simpa using h.1,λj c=>?_⟩;rw[List.length_set]at c;by_cases e:j=i
 ·subst e;rw[World.cell?_setCell_same W _ _ (h.2 j c)];simp[List.getD,d]
 ·rw[World.cell?_setCell_other W _ _ _ (λf=>e (by injection f with _ g;exact g.symm)),h.2 j c];simp[List.getD,Ne.symm e]
def mi (C:Nat->Nat->Nat) (a m x:Nat):Nat->Nat->Nat:=λa' b=>if a'=a/\b=m then x else C a' b
theorem mY (C:Nat->Nat->Nat) (a m x:Nat):mi C a m x a m=x:=if_pos ⟨rfl,rfl⟩
theorem kG (C:Nat->Nat->Nat) (a m x a' b:Nat) (h:¬(a'=a/\b=m)):mi C a m x a' b=C a' b:=if_neg h
def pq (C:Nat->Nat->Nat) (a:Nat):Nat:=C a 0+C a 1+C a 2+C a 3+C a 4
theorem Jg {C:Nat->Nat->Nat} {a m x:Nat} (c:m<5) (d:x<C a m):pq (mi C a m x) a<pq C a:=by
 have b:m=0\/m=1\/m=2\/m=3\/m=4:=oO;unfold pq;rcases b with rfl|rfl|rfl|rfl|rfl<;>simp only[mi]<;>simp<;>omega
def sA (C:Nat->Nat->Nat) (L:Nat->List ay) (a:Nat):Prop:=∀m,m<5->C a m=1073741824\/∃b∈L m,b.bQ C<=C a m
theorem zu {C C':Nat->Nat->Nat} (h:∀a m,C' a m<=C a m) (b:ay):b.bQ C'<=b.bQ C:=Nat.add_le_add_left (h _ _) _
theorem Kf {C:Nat->Nat->Nat} {a m x:Nat} (c:x<=C a m):∀a' b,mi C a m x a' b<=C a' b:=by
 intro a' b;by_cases h:a'=a/\b=m
 ·obtain⟨rfl,rfl⟩:=h;rw[mY];exact c
 ·rw[kG _ _ _ _ _ _ h];exact Nat.le_refl _
theorem sA.MP {C:Nat->Nat->Nat} {L:Nat->List ay} {a m:Nat} (h:sA C L a) {b:ay} (i:b∈L m) (k:b.bQ C<C a m):sA (mi C a m (b.bQ C)) L a:=by
 intro d l;have g:=Kf (C:=C) (a:=a) (m:=m) (x:=b.bQ C) (Nat.le_of_lt k);by_cases e:d=m
 ·subst e;right;exact⟨b,i,by rw[mY];exact zu g b⟩
 ·rw[kG _ _ _ _ _ _ (λh=>e h.2)];rcases h d l with c|⟨f,c,j⟩
  ·exact .inl c
  ·exact .inr ⟨f,c,Nat.le_trans (zu g f) j⟩
theorem vV {C C':Nat->Nat->Nat} {num at_ m:Nat} {b:ay} {n sz:Nat} {lg:Bool} (h:∀a m,at_<a->C a m=C' a m) (hn:0<n) (hb:b.run=0\/at_<b.at_):cY C num at_ m b n sz lg=cY C' num at_ m b n sz lg:=by
 have e1:ay.bQ C ⟨num,-1,n,lg,sz+8* n,at_+n,m⟩=ay.bQ C' ⟨num,-1,n,lg,sz+8* n,at_+n,m⟩:=by
  unfold ay.bQ;rw[h _ _ (by show at_<at_+n;omega)]
 unfold cY;rcases hb with hb|hb
 ·rw[if_pos (.inl hb),if_pos (.inl hb)]
 ·have e2:b.bQ C=b.bQ C':=by unfold ay.bQ;rw[h _ _ hb]
  rw[e1,e2]
theorem qE {C:Nat->Nat->Nat} {num at_ m:Nat} {a:ay} {n sz:Nat} {lg:Bool} (hn:0<n) (hb:a.run=0\/at_<a.at_):at_<(cY C num at_ m a n sz lg).at_:=by
 unfold cY;split
 ·show at_<at_+n;omega
 ·rename_i h
  rcases hb with hb|hb
  ·exact absurd (.inl hb) h
  ·exact hb
theorem mP {C:Nat->Nat->Nat} {num at_ m:Nat}:∀k,(eY C num at_ m k).run=0\/at_<(eY C num at_ m k).at_
 |0=> .inl rfl
 |k+1=> .inr (qE oO (mP k))
theorem tJ {C C':Nat->Nat->Nat} {num at_ m:Nat} (h:∀a m,at_<a->C a m=C' a m):∀k,eY C num at_ m k=eY C' num at_ m k
 |0=>rfl
 |k+1=>by
  show cY C _ _ _ _ _ _ _=cY C' _ _ _ _ _ _ _;rw[vV h oO (mP k),tJ h k]
theorem nC {C:Nat->Nat->Nat} {num at_ m K:Nat}:∀k,(dG C num at_ m K k).run=0\/at_<(dG C num at_ m K k).at_
 |0=>mP K
 |k+1=> .inr (qE oO (nC k))
theorem sq {C C':Nat->Nat->Nat} {num at_ m K:Nat} (h:∀a m,at_<a->C a m=C' a m):∀k,dG C num at_ m K k=dG C' num at_ m K k
 |0=>tJ h K
 |k+1=>by
  show cY C _ _ _ _ _ _ _=cY C' _ _ _ _ _ _ _;rw[vV h oO (nC k),sq h k]
theorem D4 {C C':Nat->Nat->Nat} {p:ByteArray} {at_ m n:Nat} (h:∀a m,at_<a->C a m=C' a m):dX C p at_ m n=dX C' p at_ m n:=by
 unfold dX eU;rw[sq h]
theorem nE {C C':Nat->Nat->Nat} {p:ByteArray} {at_ m:Nat} (h:∀a m,at_<a->C a m=C' a m):∀k,bI C p at_ m k=bI C' p at_ m k
 |0=>rfl
 |k+1=>by
  unfold bI;rw[nE h k,D4 h]
theorem Hr {C:Nat->Nat->Nat} {num at_ m K:Nat}:∀k,at_<=(dG C num at_ m K k).at_:=by
 have a:∀k,at_<=(eY C num at_ m k).at_:=λk=>by
  cases k with
  |zero=>exact Nat.le_refl _
  |succ k=>exact Nat.le_of_lt (qE oO (mP k))
 intro k;cases k with
 |zero=>exact a K
 |succ k=>exact Nat.le_of_lt (qE oO (nC k))
theorem La {C:Nat->Nat->Nat} {p:ByteArray} {at_ m n:Nat} {b:ay} (a:b∈dX C p at_ m n):at_<=b.at_:=by
 unfold dX at a;split at a
 ·split at a
  ·rw[List.mem_singleton]at a;subst a;exact Nat.le_add_right _ _
  ·cases a
 split at a
 ·rw[List.mem_singleton]at a;subst a;exact Nat.le_refl _
 split at a
 ·have key:∀k,b∈optSK p at_ m n (modeF m n) k->at_<=b.at_:=by
   intro k
   induction k with
   |zero=>intro h;cases h
   |succ k c=>
    intro h;unfold optSK at h;rw[List.mem_append]at h;rcases h with h|h
    ·exact c h
    ·unfold l9 at h;split at h
     ·rw[List.mem_singleton]at h;subst h;exact Nat.le_add_right _ _
     ·cases h
  exact key 32 a
 split at a
 ·rw[List.mem_singleton]at a;subst a;exact Hr _
 ·cases a
theorem xu {C:Nat->Nat->Nat} {p:ByteArray} {at_ m:Nat} {a:ay}:∀k,a∈bI C p at_ m k->at_<=a.at_:=by
 intro k
 induction k with
 |zero=>intro h;cases h
 |succ k b=>
  intro h;unfold bI at h;rw[List.mem_append]at h;rcases h with h|h
  ·exact b h
  ·exact La h
theorem Dz {p t:ByteArray} {at_:Nat} (h:preB p at_ t=true) (a:at_<=p.size):at_+t.size<=p.size:=by
 unfold preB Lib.hasPrefix at h;rw[List.isPrefixOf_iff_prefix]at h;have b:=h.length_le;have e1:t.data.toList.length=t.size:=by simp
 have e2:(p.extract at_ p.size).data.toList.length=p.size-at_:=by
  show(p.extract at_ p.size).data.toList.length=_;rw[Array.length_toList];show(p.extract at_ p.size).size=_;rw[ByteArray.size_extract];omega
 omega
theorem KE {C:Nat->Nat->Nat} {p:ByteArray} {at_ m n:Nat} (g:at_<p.size) (e:p.size<=4096) (c:m<5) {b:ay} (a:b∈dX C p at_ m n):okO p b:=by
 have i:=jh m;unfold dX at a;split at a
 ·split at a
  ·rename_i j d
   rw[List.mem_singleton]at a;subst a;exact⟨Dz d oO,c,by show az m<=_;omega,by show 0<=_;omega⟩
  ·cases a
 split at a
 ·rw[List.mem_singleton]at a;subst a;exact⟨by show at_<=_;omega,uv _ _,by show az m<=_;omega,by show 0<=_;omega⟩
 split at a
 ·have key:∀k,b∈optSK p at_ m n (modeF m n) k->okO p b:=by
   intro k
   induction k with
   |zero=>intro h;cases h
   |succ k f=>
    intro h;unfold optSK at h;rw[List.mem_append]at h;rcases h with h|h
    ·exact f h
    ·unfold l9 at h;split at h
     ·rename_i d
      rw[List.mem_singleton]at h;subst h;have l:=jh (modeF m n);exact⟨Dz d.2 oO,c,by show az m+az (modeF m n)<=_;omega,by show 0<=_;omega⟩
     ·cases h
  exact key 32 a
 split at a
 ·rw[List.mem_singleton]at a;subst a;unfold eU;exact sF _ oO c e oO _ oO
 ·cases a
theorem pN {C:Nat->Nat->Nat} {p:ByteArray} {at_ m:Nat} (b:at_<p.size) (c:p.size<=4096) (d:m<5) {a:ay}:∀k,a∈bI C p at_ m k->okO p a:=by
 intro k
 induction k with
 |zero=>intro h;cases h
 |succ k e=>
  intro h;unfold bI at h;rw[List.mem_append]at h;rcases h with h|h
  ·exact e h
  ·exact KE b c d h
theorem rh:∀(l:List ay) (j k:Nat) (a:ay),l[j]?=some a->k<7->(l.flatMap ay.aC)[j* 7+k]?=a.aC[k]?
 |[],j,k,a,h,b=>by simp at h
 |x::l,0,k,a,h,b=>by
  simp only[List.getElem?_cons_zero,Option.some.injEq]at h;subst h;rw[List.flatMap_cons,List.getElem?_append_left (by show 0* 7+k<7;omega)];simp
 |x::l,j+1,k,a,h,b=>by
  rw[List.flatMap_cons,List.getElem?_append_right (by show 7<=_;omega)];rw[<-rh l j k a (by simpa using h) b];congr 1;show(j+1)* 7+k-7=_;omega
structure SQ (w:World) (b a cap hb:Nat) (p:ByteArray) (C:Nat->Nat->Nat):Prop where
 S:SW w b a cap hb p C
 F:FZ w a (5* (p.size+1))
 n1:b≠a
 n2:hb≠b
 n3:hb≠a
theorem SQ.below {w W:World} {a b cap hb:Nat} {p:ByteArray} {C:Nat->Nat->Nat} (h:SQ w a b cap hb p C) (c:Below w.heap.size w W):SQ W a b cap hb p C:=⟨h.S.below c,h.F.below c,h.n1,h.n2,h.n3⟩
theorem SQ.set {w:World} {c d cap hb:Nat} {p:ByteArray} {C:Nat->Nat->Nat} (h:SQ w c d cap hb p C) (a m x:Nat) (o:a<=p.size) (q:m<5) (k:x<=1073741824):
 SQ (w.setCell ⟨d,a* 5+m,none⟩ (.int .i64 (x:Int))) c d cap hb p (mi C a m x):=by
 have hs:=h.S;have f:∀i,(w.setCell ⟨d,a* 5+m,none⟩ (.int .i64 (x:Int))).cell? ⟨c,i,none⟩=w.cell? ⟨c,i,none⟩:=λi=>World.cell?_setCell_other w _ _ _ (λe=>h.n1 (by injection e with e1;exact e1.symm));refine⟨⟨by simpa using hs.lt,by rw[f];exact hs.c0,λi v l=>by rw[f];exact hs.ct i v l,by rw[f];exact hs.cc,by rw[f];exact hs.cm,by simpa using hs.cl,λa' b g j=>?_,hs.hc,hs.hp,λa' b=>?_⟩,h.F.set _ _,h.n1,h.n2,h.n3⟩
 ·by_cases e:a'=a/\b=m
  ·obtain⟨rfl,rfl⟩:=e;rw[World.cell?_setCell_same w _ _ (hs.cz a' b g j),mY]
  ·rw[World.cell?_setCell_other w _ _ _ (λn=>e (by injection n with _ r;omega)),hs.cz a' b g j,kG _ _ _ _ _ _ e]
 ·by_cases e:a'=a/\b=m
  ·obtain⟨rfl,rfl⟩:=e;rw[mY];exact k
  ·rw[kG _ _ _ _ _ _ e];exact hs.b a' b
theorem SQ.grown {w W:World} {b c cap hb:Nat} {p:ByteArray} {C:Nat->Nat->Nat} (h:SQ w b c cap hb p C) {g:Nat} (hg:w.grownBy W (some g)) (j:g≠b) (f:g≠c):SQ W b c cap hb p C:=by
 have hs:=h.S;have d:∀i,W.cell? ⟨b,i,none⟩=w.cell? ⟨b,i,none⟩:=λi=>hg.cell_far ⟨b,i,none⟩ hs.lt (λe=>j (by injection e with e;exact e.symm));have k:∀i,W.cell? ⟨c,i,none⟩=w.cell? ⟨c,i,none⟩:=λi=>hg.cell_far ⟨c,i,none⟩ hs.cl (λe=>f (by injection e with e;exact e.symm));exact⟨⟨Nat.lt_of_lt_of_le hs.lt hg.size,by rw[d];exact hs.c0,λi v l=>by rw[d];exact hs.ct i v l,by rw[d];exact hs.cc,by rw[d];exact hs.cm,Nat.lt_of_lt_of_le hs.cl hg.size,λa m n o=>by rw[k];exact hs.cz a m n o,hs.hc,hs.hp,hs.b⟩,h.F.grown hg (λe=>f (by injection e with e;exact e.symm)),h.n1,h.n2,h.n3⟩
theorem LK:laidOutB Tryz.prog=true:=oK
theorem Mi:(179:TypeId)<Tryz.prog.types.size:=of_decide_eq_true oK
theorem LV:(match Tryz.prog.underlying 179 with|some (.array _ _)|some (.struct _)=>true|_=>false)=true:=oK
theorem zg:Keyed Tryz.prog 179:=Keyed.of_law (deep_law_laid LK (m:=3) oO Mi oK LV)
theorem FD:Tryz.prog.keyType 179=true:=oK
theorem Du:Tryz.prog.cellsOf 179=2:=oK
theorem Hw:Tryz.prog.cellsOf 3=1:=oK
theorem Lh:Tryz.prog.types.size+1=(Tryz.prog.types.size-2)+3:=by
 have h:2<=Tryz.prog.types.size:=of_decide_eq_true oK;omega
theorem FX (n:Nat) (a:Int) (h:(Lit.int .i64 a).wf=true):Tryz.prog.keyLits (n+1) 3 [.int .i64 a]=some [.int .i64 a]:=by
 simp[Program.keyLits,Tryz.underlying3,h]
def J7 (a m:Nat):Lit:= .string (keyBytes [.int .i64 (a:Int),.int .i64 (m:Int)])
theorem wh (a m:Nat) (f:a<=9223372036854775807) (g:m<=9223372036854775807):keyOf Tryz.prog 179 (.agg #[.int .i64 (a:Int),.int .i64 (m:Int)])=some (J7 a m):=by
 have c:(Lit.int .i64 (a:Int)).wf=true:=WalkArith.wf_i64 oO;have d:(Lit.int .i64 (m:Int)).wf=true:=WalkArith.wf_i64 oO;unfold keyOf;have b:=Tryz.underlying179;have e:(Value.agg #[.int .i64 (a:Int),.int .i64 (m:Int)]).formed Tryz.prog 179=true:=by simp[Value.formed,b,Du]
 rw[b];simp only[FD,e,Bool.and_self,if_true];rw[Lh];generalize Tryz.prog.types.size-2=n;have hl:Tryz.prog.keyLits (n+3) 179 [.int .i64 (a:Int),.int .i64 (m:Int)]=some [.int .i64 (a:Int),.int .i64 (m:Int)]:=by
  unfold Program.keyLits;rw[b];dsimp only;rw[if_pos (by rw[Du];exact⟨rfl,by kernel_rfl⟩)];simp only[List.mapM_cons,List.mapM_nil,Hw,List.drop_zero,List.drop_succ_cons,List.take_succ_cons,List.take_zero,FX _ _ c,FX _ _ d];rfl
 rw[show(Value.agg #[.int .i64 (a:Int),.int .i64 (m:Int)]).cells.toList=[.int .i64 (a:Int),.int .i64 (m:Int)]from rfl,hl];rfl
theorem Kq {a m a' b:Nat} (f:a<=9223372036854775807) (g:m<=9223372036854775807) (c:a'<=9223372036854775807) (d:b<=9223372036854775807) (h:J7 a m=J7 a' b):a=a'/\m=b:=by
 have e:=wh a m f g;have i:=wh a' b c d;rw[h]at e;have c:=zg.inj e i;have d:(a:Int)=a'/\(m:Int)=b:=by simpa using c
 omega
def JL (v:Value):Option (DataW Value×List MemPlace):=some (.held v,[])
abbrev DX:Value:=(ay.val ⟨0,0,0,false,0,0,0⟩)
theorem KG (w:World):(zeroValue 181).run Tryz.prog w= .ok DX w:=oK
def cW (w:World) (hb d:Nat) (c:Nat->Nat->Option ay):Prop:=
 ∃D:DataW Value,Maps.IsMap D/\w.ownsMap Tryz.prog 179 JL hb d D/\∀a m b,a<=4096->m<5->c a m=some b->D.atKey (J7 a m) (.held DX)= .held b.val
theorem cW.below {w W:World} {hb c:Nat} {a:Nat->Nat->Option ay} (h:cW w hb c a) (d:Below w.heap.size w W):cW W hb c a:=by
 obtain⟨D,e,f,g⟩:=h;refine⟨D,e,?_,g⟩;obtain⟨i,clock,b,F,hs,j⟩:=f;exact⟨i,clock,(d.block hb ((Array.getElem?_eq_some_iff.1 b).1)).trans b,F,hs,j⟩
theorem cW.set {w:World} {hb c:Nat} {b:Nat->Nat->Option ay} (h:cW w hb c b) {a:Addr} (g:hb≠a.block) (u:Value):cW (w.setCell a u) hb c b:=by
 obtain⟨D,d,e,f⟩:=h;exact⟨D,d,e.setCell g u,f⟩
theorem cW.uj {w:World} {hb g i:Nat} {c d:Nat->Nat->Option ay} (h:cW w hb g c) (hc:g<=i) (j:∀a m b,a<=4096->m<5->d a m=some b->c a m=some b):cW w hb i d:=by
 obtain⟨D,k,l,n⟩:=h;exact⟨D,k,l.mono hc,λa m b e f o=>n a m b e f (j a m b e f o)⟩
theorem cW.lt {w:World} {hb c:Nat} {a:Nat->Nat->Option ay} (h:cW w hb c a):hb<w.heap.size:=by
 obtain⟨D,d,b,e⟩:=h;exact b.lt
def uI (c:Nat->Nat->Option ay) (a m:Nat) (d:ay):Nat->Nat->Option ay:=λa' b=>if a'=a/\b=m then some d else c a' b
theorem cW.put {w:World} {hb d:Nat} {f:Nat->Nat->Option ay} (h:cW w hb d f) (a m:Nat) (c:ay) (t:a<=4096) (u:m<5) (hc:d<maxLen):
 ∃w',(Instr.mapUpdate 173 (.map (some hb)) (.agg #[.int .i64 (a:Int),.int .i64 (m:Int)]) c.val).run Tryz.prog w= .ok () w'/\cW w' hb (d+1) (uI f a m c)/\w.grownBy w' (some hb):=by
 obtain⟨D,g,k,l⟩:=h;have i:=wh a m oO oO;obtain⟨w',s,n,o⟩:=k.update zg Tryz.underlying173 hc i (show JL c.val=some (.held c.val,[])from rfl);refine⟨w',s,⟨_,g.put _ _,n,λa' j p q r b=>?_⟩,o⟩;by_cases e:a'=a/\j=m
 ·obtain⟨rfl,rfl⟩:=e;rw[Maps.atKey_put_same g (zg.key i)];unfold uI at b;rw[if_pos ⟨rfl,rfl⟩]at b;rw[Option.some.inj b]
 ·rw[Maps.atKey_put_other]
  ·refine l a' j p q r ?_;unfold uI at b;rwa[if_neg e]at b
  ·intro e2;exact e (Kq oO oO oO oO e2)
theorem cW.lookup {w:World} {hb n:Nat} {c:Nat->Nat->Option ay} (h:cW w hb n c) (a m:Nat) (b:ay) (f:a<=4096) (g:m<5) (i:c a m=some b):
 (Instr.lookup 173 (.map (some hb)) (.agg #[.int .i64 (a:Int),.int .i64 (m:Int)]) false).run Tryz.prog w= .ok b.val w:=by
 obtain⟨D,p,j,k⟩:=h;have l:=wh a m oO oO;obtain⟨v,ps,o,d⟩:=j.lookup zg Tryz.underlying173 (KG w) (show JL DX=some (.held DX,[])from rfl) l;rw[k a m b f g i]at d;have e:v=b.val:=by
  exact DataW.held.inj (Prod.mk.inj (Option.some.inj d)).1
 rw[o,e]
end
theorem zm (x y p:Nat) (a:p≠0):cmod (x^^^y) p=cmod x p^^^cmod y p:=by
 refine(jD _ _ _ ?_ ?_).symm
 ·have:=mr (jV x p) (jV y p);rw[show x^^^cmod x p^^^(y^^^cmod y p)=(x^^^y)^^^(cmod x p^^^cmod y p)from by ac_rfl]at this;exact this
 ·have b:=kK x p a;have c:=kK y p a;have:=k8 (cmod x p) (cmod y p) (bl p-1) oO oO;omega
theorem EV (x y p:Nat) (a:p≠0) (h:gw p (x^^^y)):cmod x p=cmod y p:=by
 refine jD _ _ _ ?_ (kK _ _ a);have:=mr h (jV x p);rw[show x^^^y^^^(x^^^cmod x p)=(x^^^x)^^^(y^^^cmod x p)from by ac_rfl]at this;simpa using this
theorem mg (x y p:Nat) (a:p≠0):cmod (bJ (cmod x p) y) p=cmod (bJ x y) p:=by
 refine(EV _ _ _ a ?_).symm;rw[<-qY];exact Bb _ (jV x p)
theorem vX (x y p:Nat) (a:p≠0):cmod (bJ x (cmod y p)) p=cmod (bJ x y) p:=by
 rw[mO,mg _ _ _ a,mO]
theorem tn (a p d:Nat) (b:bl p=d+1) (e:bl a<=d):cmod (2* a) p=if 2^d<=2* a then(2* a)^^^p else 2* a:=by
 have g:p≠0:=by intro h;subst h;rw[dI]at b;omega
 have f:bl (2* a)<=d+1:=by
  by_cases h:a=0
  ·subst h;rw[Nat.mul_zero,dI];omega
  ·rw[qR a h];omega
 split
 ·rename_i h
  have c:bl (2* a)=d+1:=by have:=(gL (2* a) d).2 h;omega
  refine(jD _ _ _ ?_ ?_).symm
  ·rw[<-Nat.xor_assoc];simp;exact GR p
  ·have:=x5 (2* a) p d c b;omega
 ·rename_i h
  exact jw _ _ (by have:=(aS (2* a) d).2 oO;omega)
def au (s p a b:Nat):Nat:=if p=0 then a* b%s else cmod (bJ a b) p
theorem Hh (A B p:Nat) (a:p≠0):cmod (bJ A B) p=(if B%2=1 then cmod A p else 0)^^^cmod (bJ (cmod (2* A) p) (B/2)) p:=by
 rw[eM,zm _ _ _ a,mg _ _ _ a,oJ];congr 1;split
 ·rfl
 ·exact jw 0 p (by rw[dI];exact fG p a)
section
open Go.RowKit
theorem GC (x:Nat) (h:x<2^64):Lib.bitLen x=bl x:=by
 induction x using Nat.strongRecOn with
 |_ x b=>
  by_cases a:x=0
  ·subst a;rfl
  ·rw[Lib.bitLen_half x a h,b (x/2) oO oO];by_cases c:x=1
   ·subst c;rfl
   ·have d:x/2≠0:=oO;obtain⟨n,hn⟩:∃n,bl (x/2)=n+1:=⟨bl (x/2)-1,by have:=fG _ d;omega⟩;have e:=(gL (x/2) n).1 oO;have f:=(aS (x/2) (n+1)).1 oO;rw[hn];rw[s9 x (n+1) (by rw[Nat.pow_succ];omega) (by rw[Nat.pow_succ];omega)];omega
theorem Ky (x:Int) (w:World) (a:0<=x) (b:x<=9223372036854775807):
 Calls Tryz.prog 219 #[.int .u64 x] w λe w'=>e= .returned (.int .i64 (bl x.toNat))/\w=w':=by
 refine(Tryz.bits_Len x w a oO).mono ?_;rintro e w' ⟨rfl,rfl⟩;exact⟨by rw[GC _ oO],rfl⟩
theorem Dy (x:Int) (a:0<=x) (b:x<=9223372036854775807):bl x.toNat<=63:=
 (aS _ _).2 oO
theorem eP (p:Int) (w:World) (a:0<=p) (b:p<=9223372036854775807):
 Calls Tryz.prog 188 #[.int .i64 p] w λe w'=>e= .returned (.int .i64 ((bl p.toNat:Int)-1))/\w=w':=by
 have hb:=Dy p a b;go_enter Tryz.func188,Tryz.ntmps188;go_wp2_with(go_at_call 219;refine(Ky _ _ oO oO).mono ?_;rintro e w' ⟨rfl,rfl⟩)
 go_ret;exact⟨rfl,rfl⟩
end
section
open Go.RowKit Go.WideMaps Go.Maps
def lp (W:World) (cb at_ m:Nat):Nat:=match W.cell? ⟨cb,at_* 5+m,none⟩with|some (.int _ x)=>x.toNat|_=>0
def uL (W:World) (cb at_:Nat):Nat:=lp W cb at_ 0+lp W cb at_ 1+lp W cb at_ 2+lp W cb at_ 3+lp W cb at_ 4
theorem SW.sum {w:World} {sb cb cap hb:Nat} {p:ByteArray} {C:Nat->Nat->Nat} (h:SW w sb cb cap hb p C) (at_:Nat) (a:at_<=p.size):uL w cb at_=pq C at_:=by
 have k:∀m,m<5->lp w cb at_ m=C at_ m:=λm b=>by unfold lp;rw[h.cz at_ m a b];simp
 unfold uL pq;rw[k 0 oO,k 1 oO,k 2 oO,k 3 oO,k 4 oO]
def vY:Value->Nat
 |.bool true=>1
 |_=>0
theorem IN:(Tryz.prog.info? 219).map (·.zero)=some (some (.agg #[.slice none 0 0,.slice none 0 0,.slice none 0 0,.slice none 0 0,.slice none 0 0])):=oK
theorem Fi:(Tryz.prog.info? 219).map (·.size)=some 5:=oK
theorem BN:(Tryz.prog.info? 218).map (·.size)=some 1:=oK
structure QS (w wr:World) (n ob base sb cb cap hb:Nat) (p:ByteArray) (C:Nat->Nat->Nat) (vs:List Value) (L:Nat->List ay) (μ cnt:Nat) (T:Nat->Nat->Option ay):Prop where
 B:Below n w wr
 S:SQ wr sb cb cap hb p C
 A:an wr ob vs
 F:FZ wr ob 5
 V:∀i,i<μ->∃v,vs[i]?=some v/\wr.ownsRow base 181 7 v (L i).length ((L i).flatMap ay.aC)
 M:cW wr hb cnt T
 l5:vs.length=5
 n1:n<=sb/\n<=cb/\n<=hb
 n2:sb<ob/\cb<ob/\hb<ob
 n3:ob<base
 n4:base<=wr.heap.size
section
variable {w wr W : World} {n ob base sb cb cap hb : Nat} {p : ByteArray} {C : Nat → Nat → Nat} {vs : List Value} {L : Nat → List ay} {μ cnt : Nat} {T : Nat → Nat → Option ay}
theorem QS.below (h:QS w wr n ob base sb cb cap hb p C vs L μ cnt T) (a:Below wr.heap.size wr W):QS w W n ob base sb cb cap hb p C vs L μ cnt T:=
 ⟨h.B.trans (a.mono (by have:=h.n1;have:=h.n2;have:=h.n3;have:=h.n4;omega)),h.S.below a,h.A.below a,h.F.below a,λi b=>by obtain⟨v,c,d⟩:=h.V i b;exact⟨v,c,ao d a⟩,h.M.below a,h.l5,h.n1,h.n2,h.n3,Nat.le_trans h.n4 a.size⟩
theorem lD {base:Nat} {e:TypeId} {sz:Nat} {v:Value} {k:Nat} {xs:List Value} (h:wr.ownsRow base e sz v k xs) {a:Addr} (j:a.block<base) (u:Value):(wr.setCell a u).ownsRow base e sz v k xs:=by
 refine⟨h.1,?_⟩;rcases h.2 with b|⟨g,cap,i,c,b,d,f⟩
 ·exact .inl b
 ·exact .inr ⟨g,cap,i,c,b,(Below.heap_setCell _ _ _ _ oO).trans d,f⟩
theorem QS.cost (h:QS w wr n ob base sb cb cap hb p C vs L μ cnt T) (a m x:Nat) (b:a<=p.size) (c:m<5) (d:x<=1073741824):
 QS w (wr.setCell ⟨cb,a* 5+m,none⟩ (.int .i64 (x:Int))) n ob base sb cb cap hb p (mi C a m x) vs L μ cnt T:=by
 have j:=h.n1;have k:=h.n2;have l:=h.n3
 exact⟨h.B.setCell (by show n<=cb;omega) _,h.S.set a m x b c d,h.A.other _ _ (by show ob≠cb;omega),h.F.set _ _,λi e=>by obtain⟨v,f,g⟩:=h.V i e;exact⟨v,f,lD g (by show cb<base;omega) _⟩,h.M.set (by exact h.S.n3) _,h.l5,h.n1,h.n2,h.n3,by simpa using h.n4⟩
theorem QS.slot (h:QS w wr n ob base sb cb cap hb p C vs L μ cnt T) (v:Value) (f:μ<5) (g:wr.ownsRow base 181 7 v (L μ).length ((L μ).flatMap ay.aC)):
 QS w (wr.setCell ⟨ob,μ,none⟩ v) n ob base sb cb cap hb p C (vs.set μ v) L (μ+1) cnt T:=by
 have q:=h.n1;have c:=h.n2;have r:=h.n3
 have hs:=h.S.S;have d:∀b i,b<ob->(wr.setCell ⟨ob,μ,none⟩ v).cell? ⟨b,i,none⟩=wr.cell? ⟨b,i,none⟩:=λb i hb=>World.cell?_setCell_other wr _ _ _ (λe=>by injection e with e1;omega)
 refine⟨h.B.setCell (by show n<=ob;omega) _,⟨⟨by simpa using hs.lt,by rw[d _ _ c.1];exact hs.c0,λi u j=>by rw[d _ _ c.1];exact hs.ct i u j,by rw[d _ _ c.1];exact hs.cc,by rw[d _ _ c.1];exact hs.cm,by simpa using hs.cl,λa m k f=>by rw[d _ _ c.2.1];exact hs.cz a m k f,hs.hc,hs.hp,hs.b⟩,h.S.F.set _ _,h.S.n1,h.S.n2,h.S.n3⟩,
  h.A.set μ v (by rw[h.l5];exact f),h.F.set _ _,λi s=>?_,h.M.set (by show hb≠ob;omega) _,by rw[List.length_set];exact h.l5,h.n1,h.n2,h.n3,by simpa using h.n4⟩
 by_cases e:i=μ
 ·subst e;exact⟨v,by rw[List.getElem?_set_self (by rw[h.l5];exact f)],lD g (by show ob<base;omega) _⟩
 ·obtain⟨u,l,o⟩:=h.V i oO;exact⟨u,by rw[List.getElem?_set_ne (Ne.symm e)];exact l,lD o (by show ob<base;omega) _⟩
theorem QS.put (h:QS w wr n ob base sb cb cap hb p C vs L μ cnt T) {a:Nat->Nat->Option ay} {d:Nat} (hg:wr.grownBy W (some hb)) (f:cW W hb d a):QS w W n ob base sb cb cap hb p C vs L μ d a:=by
 have o:=h.n1;have r:=h.n2;have s:=h.n3
 refine⟨h.B.grown hg (by have:=h.n4;omega) (λk b=>by injection b with b;omega),h.S.grown hg h.S.n2 h.S.n3,h.A.grown hg (λq hq=>by injection hq with hq;omega),h.F.grown hg (λe=>by injection e with e;omega),λi j=>?_,f,h.l5,h.n1,h.n2,h.n3,Nat.le_trans h.n4 hg.size⟩;obtain⟨v,l,c⟩:=h.V i j;refine⟨v,l,c.kept hg ?_⟩;cases m:v.ownBlock with
 |none=>exact .inl rfl
 |some g=>right;intro e;injection e with e;have:=(c.lt g m).1;omega
theorem QS.row (h:QS w wr n ob base sb cb cap hb p C vs L μ cnt T) (i:Nat) (m:i<μ):∃A c,vs[i]?=some (.slice A (L i).length c)/\
 ∀j,j<(L i).length->∃g,A=some ⟨g,0,none⟩/\∀W,Below wr.heap.size wr W->∀a,(L i)[j]?=some a->∀k u,a.aC[k]?=some u->W.cell? ⟨g,j* 7+k,none⟩=some u:=by
 obtain⟨v,e,f⟩:=h.V i m;rcases f.2 with⟨rfl,o⟩|⟨g,cap,y,rfl,hb,hg,z,oZ,B,x⟩
 ·exact⟨none,0,by rw[o];exact e,λj q=>by omega⟩
 ·refine⟨_,cap,e,λj q=>⟨g,rfl,λW r a s k u b=>?_⟩⟩;have t:k<7:=by
   rcases Nat.lt_or_ge k 7 with d|d
   ·exact d
   ·rw[List.getElem?_eq_none (by show 7<=k;exact d)]at b;cases b
  have l:=f.cells (g:=g) rfl (j* 7+k) u (by rw[rh _ _ _ _ s t];exact b);rw[add_plain,Nat.zero_add]at l;exact(r.cell (ar hg)).trans l
end
end
end Go.Proofs.YtmnlkganmgcpbaaGreatDoor
