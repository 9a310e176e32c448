import Derived.Test.YtmnlkganmgcpbaaGreatDoorQd21
set_option maxRecDepth 100000
set_option maxHeartbeats 4000000
set_option linter.unusedVariables false
set_option linter.unusedSectionVars false
set_option linter.unusedSimpArgs false
namespace Go.Proofs.YtmnlkganmgcpbaaGreatDoor
section
open Go.RowKit
abbrev pP (W H:Int) (A:Option Addr) (N a:Nat):Obj:= .cells (iX W H A N a) 28
theorem iG (w:World) (W H:Int) (A:Option Addr) (N a:Nat):Hid (∀V,af (w.alloc (pP W H A N a)) V->V.cell? ⟨w.heap.size,0,none⟩=some (.int .i64 W)/\V.cell? ⟨w.heap.size,1,none⟩=some (.int .i64 H)/\V.cell? ⟨w.heap.size,2,none⟩=some (.slice A N a)):=by
 show∀V,_;intro V c;have h:aa (w.alloc (pP W H A N a)) w.heap.size (iX W H A N a) 28:=aa.new _ _ _ _ rfl;have b:=h.below c;exact⟨b.cell 0 _ rfl,b.cell 1 _ rfl,b.cell 2 _ rfl⟩
theorem C6 {W H:Int} {N:Nat} (h:dW W H N=true):∃n m:Nat,W=n/\H=m/\1<=n/\n<=4096/\1<=m/\m<=4096/\N=n* m/\N<=4194304:=by
 unfold dW at h;simp only[Bool.and_eq_true,decide_eq_true_eq]at h;obtain⟨⟨⟨⟨⟨b,c⟩,d⟩,e⟩,f⟩,a⟩:=h;refine⟨W.toNat,H.toNat,by omega,by omega,by omega,by omega,by omega,by omega,?_,by omega⟩;have e1:W=(W.toNat:Int):=oO;have e2:H=(H.toNat:Int):=oO;rw[e1,e2,<-Int.natCast_mul]at a
 exact_mod_cast a
theorem I6 {n:Nat} {c:Bool} (h:cK n c=true):∃L,1<=L/\L<=32/\(c=true->L<=4)/\n=ai L c:=by
 unfold cK at h;rw[List.any_eq_true]at h;obtain⟨i,d,a⟩:=h;rw[Bool.and_eq_true,beq_iff_eq]at a;obtain⟨k,e,f,g,b⟩:=fL a.1;have:k=i+1:=oO;exact⟨i+1,by omega,by omega,λhc=>by have:=b hc;omega,a.2.symm⟩
theorem jA {n:Nat} {c:Bool} (h:cK n c=true):aM c+2<=(n-1)/2/\(n-1)/2+aM c+2<n/\n=2* ((n-1)/2)+1/\n<=161/\15<=n:=by
 obtain⟨L,a,b,e,rfl⟩:=I6 h;have d:=jg (c:=c) a b;have f:=ld L c a b;unfold aT at d;omega
theorem G1 (W H:Int) (A:Option Addr) (N a:Nat) (d:List Bool) (w:World) (g:N<=9223372036854775807) (b:dW W H N=false) (c:d.length=N):Calls Tryz.prog 14 #[cX W H A N a] w (dC w (cu W H d)):=by
 have i:Hid (cu W H d=([],0,1)):=by show _=_;unfold cu;rw[c,if_pos b]
 have k:Hid (∀V,Calls Tryz.prog 37 #[cX W H A N a] V λe w'=>e= .returned (.bool false)/\Below V.heap.size V w'):=λV=>by rw[<-b];exact gO W H A N a V g
 clear b c;go_enter Tryz.func14,Tryz.ntmps14;go_wp2_with(go_at_call 37;refine(k.out _).mono ?_;rintro e j ⟨rfl,f⟩;have l:Hid (Below w.heap.size w j):=cP f;clear f)
 go_ret3
 exact dC.err i.out l.out
theorem CJ (n m:Nat) (A:Option Addr) (N a:Nat) (d:List Bool) (w:World) (hn:n<=4096) (H:N<=4194304) (f:dW n m N=true) (l:d.length=N) (M:n≠m) (o p:Bool) (q:cK n true=o) (r:cK n false=p):Calls Tryz.prog 14 #[cX n m A N a] w (dC w (cu n m d)):=by
 have C:Hid (cu n m d=([],0,23)):=by
  show _=_;unfold cu;rw[l,f,if_neg oD,if_pos (.inl oO)]
 have E:Hid (∀V,Calls Tryz.prog 37 #[cX n m A N a] V λe w'=>e= .returned (.bool true)/\Below V.heap.size V w'):=λV=>by rw[<-f];exact gO _ _ A N a V oO
 have F:Hid (∀V,Calls Tryz.prog 38 #[.int .i64 n,.bool true] V λe w'=>e= .returned (.bool o)/\Below V.heap.size V w'):=λV=>by have h:=cF n true V oO;rw[q]at h;exact h
 have G:Hid (∀V,Calls Tryz.prog 38 #[.int .i64 n,.bool false] V λe w'=>e= .returned (.bool p)/\Below V.heap.size V w'):=λV=>by have h:=cF n false V oO;rw[r]at h;exact h
 have O:¬(n:Int)=(m:Int):=oO;clear f l q r;have b:=iG w n m A N a;obtain⟨w0,c⟩:∃w0,w0=w.alloc (pP n m A N a):=⟨_,rfl⟩;have v:Hid (Below w.heap.size w w0):=by show Below _ _ _;rw[c];exact ax _ _
 obtain⟨s,g⟩:∃s,s=w.heap.size:=⟨_,rfl⟩;rw[<-c,<-g]at b;go_enter Tryz.func14,Tryz.ntmps14;go_wp2_with(go_at_call 37;(rw[<-c]);refine(E.out _).mono ?_;rintro e t ⟨rfl,x⟩;have y:Hid (af w0 t):=x;clear x)
 simp only[<-g];clear c g;have i:Hid (af w0 t.drew):=aj y.out;refine yO (af w0) [1,2,4,5,0,3,6,0,7,8] i.out ?_
 repeat refine zO b.out ?_
 refine zZ ?_;refine(F.out _).mono ?_;rintro e D ⟨rfl,z⟩;have j:Hid (af w0 D):=ae i.out z;clear z;refine⟨_,rfl,j.out,jO ?_⟩;refine zZ ?_;refine(G.out _).mono ?_;rintro e u ⟨rfl,B⟩;have k:Hid (af w0 u):=ae j.out B;clear B;refine⟨_,rfl,k.out,jO ?_⟩
 repeat refine zO b.out ?_
 refine ag ?_;obtain⟨J,K,L⟩:=b.out u k.out;clear y j i;go_wp2;go_ret3
 exact dC.err C.out (v.out.trans (k.out.mono v.out.size))
theorem Cv (n m:Nat) (A:Option Addr) (N a:Nat) (d:List Bool) (w:World) (hn:n<=4096) (G:N<=4194304) (f:dW n m N=true) (p:d.length=N) (z:n=m) (g:cK n true=false) (i:cK n false=false):Calls Tryz.prog 14 #[cX n m A N a] w (dC w (cu n m d)):=by
 have B:Hid (cu n m d=([],0,23)):=by
  show _=_;unfold cu;rw[p,f,if_neg oD,if_pos (.inr (by rw[Int.toNat_natCast];exact⟨g,i⟩))]
 have D:Hid (∀V,Calls Tryz.prog 37 #[cX n m A N a] V λe w'=>e= .returned (.bool true)/\Below V.heap.size V w'):=λV=>by rw[<-f];exact gO _ _ A N a V oO
 have E:Hid (∀V,Calls Tryz.prog 38 #[.int .i64 n,.bool true] V λe w'=>e= .returned (.bool false)/\Below V.heap.size V w'):=λV=>by have h:=cF n true V oO;rw[g]at h;exact h
 have F:Hid (∀V,Calls Tryz.prog 38 #[.int .i64 n,.bool false] V λe w'=>e= .returned (.bool false)/\Below V.heap.size V w'):=λV=>by have h:=cF n false V oO;rw[i]at h;exact h
 subst z;clear f p g i;have b:=iG w n n A N a;obtain⟨w0,c⟩:∃w0,w0=w.alloc (pP n n A N a):=⟨_,rfl⟩;have t:Hid (Below w.heap.size w w0):=by show Below _ _ _;rw[c];exact ax _ _
 obtain⟨q,j⟩:∃q,q=w.heap.size:=⟨_,rfl⟩;rw[<-c,<-j]at b;go_enter Tryz.func14,Tryz.ntmps14;go_wp2_with(go_at_call 37;(rw[<-c]);refine(D.out _).mono ?_;rintro e r ⟨rfl,u⟩;have v:Hid (af w0 r):=u;clear u)
 simp only[<-j];clear c j;have k:Hid (af w0 r.drew):=aj v.out;refine yO (af w0) [1,2,4,5,0,3,6,0,7,8] k.out ?_
 repeat refine zO b.out ?_
 refine zZ ?_;refine(E.out _).mono ?_;rintro e C ⟨rfl,x⟩;have l:Hid (af w0 C):=ae k.out x;clear x;refine⟨_,rfl,l.out,jO ?_⟩;refine zZ ?_;refine(F.out _).mono ?_;rintro e s ⟨rfl,y⟩;have o:Hid (af w0 s):=ae l.out y;clear y;refine⟨_,rfl,o.out,jO ?_⟩
 repeat refine zO b.out ?_
 refine ag ?_;obtain⟨H,J,K⟩:=b.out s o.out;clear v l k;go_wp2;go_ret3
 exact dC.err B.out (t.out.trans (o.out.mono t.out.size))
theorem ky (n C m a C' b:Nat) (c d:Bool):(splice (aS n c C m).toList 0 (aS a d C' b).toList).toArray=aS a d C' b:=rfl
theorem eI {W:World} {b n C m:Nat} {c:Bool} (h:aa W b (aS n c C m) 71):W.cell? ⟨b,0,none⟩=some (.int .i64 (n:Int))/\W.cell? ⟨b,1,none⟩=some (.bool c)/\W.cell? ⟨b,2,none⟩=some (.int .i64 (C:Int))/\W.cell? ⟨b,3,none⟩=some (.int .i64 (m:Int)):=⟨h.cell 0 _ rfl,h.cell 1 _ rfl,h.cell 2 _ rfl,h.cell 3 _ rfl⟩
theorem G7 (n:Nat) (A:Option Addr) (N a:Nat) (d:List Bool) (w:World) (K:N=n* n) (bi:N<=4194304) (g:dW n n N=true) (p:SR vB false w A N a d) (q:cK n true=false) (i:cK n false=true) (L:gQ n ((n-1)/2) false d=false):Calls Tryz.prog 14 #[cX n n A N a] w (dC w (cu n n d)):=by
 have M:jE n d=none:=by
  unfold jE;rw[i,L,Bool.true_and,if_neg oD,q,Bool.false_and,if_neg oD]
 have S:cu n n d=([],0,18):=by
  unfold cu;rw[<-p.hn,g,if_neg oD,if_neg (λh=>by rcases h with h|⟨h,r⟩;exact h rfl;rw[Int.toNat_natCast]at h r;rw[i]at r;cases r),Int.toNat_natCast,M]
 have hg:15<=n/\n<=161:=by have h:=jA i;omega
 have a4:Hid (∀V,Calls Tryz.prog 37 #[cX n n A N a] V λe w'=>e= .returned (.bool true)/\Below V.heap.size V w'):=λV=>by rw[<-g];exact gO _ _ A N a V oO
 have a5:Hid (∀V,Calls Tryz.prog 38 #[.int .i64 n,.bool true] V λe w'=>e= .returned (.bool false)/\Below V.heap.size V w'):=λV=>by have h:=cF n true V oO;rw[q]at h;exact h
 have a6:Hid (∀V,Calls Tryz.prog 38 #[.int .i64 n,.bool false] V λe w'=>e= .returned (.bool true)/\Below V.heap.size V w'):=λV=>by have h:=cF n false V oO;rw[i]at h;exact h
 obtain⟨C,j⟩:∃C,C=(n-1)/2:=⟨_,rfl⟩;obtain⟨c,z⟩:∃x,x=aM false:=⟨_,rfl⟩;obtain⟨k,T⟩:∃x,x=aM true:=⟨_,rfl⟩;have be:Hid (∀V,Calls Tryz.prog 39 #[.int .i64 n,.bool false] V λe w'=>e= .returned (bO n false C c)/\Below V.heap.size V w'):=λV=>by rw[j,z];exact dK n false V oO oO
 have bf:Hid (∀V,Calls Tryz.prog 39 #[.int .i64 n,.bool true] V λe w'=>e= .returned (bO n true C k)/\Below V.heap.size V w'):=λV=>by rw[j,T];exact dK n true V oO oO
 have a7:Hid (∀V,af w V->Calls Tryz.prog 40 #[bO n false C c,cX n n A N a] V λe w'=>e= .returned (.bool false)/\Below V.heap.size V w'):=λV al=>by have h:=lE n C c false n A N a d V z oO oO oO K (p.below al);rw[j,L,<-j]at h;exact h
 have am:=Lib.hid S;clear S M g p q i K j z T;have f:=iG w n n A N a;obtain⟨w0,l⟩:∃w0,w0=w.alloc (pP n n A N a):=⟨_,rfl⟩;have m:Hid (Below w.heap.size w w0):=by show Below _ _ _;rw[l];exact ax _ _
 obtain⟨O,B⟩:∃O,O=w.heap.size:=⟨_,rfl⟩;rw[<-l,<-B]at f;go_enter Tryz.func14,Tryz.ntmps14;go_wp2_with(go_at_call 37;(rw[<-l]);refine(a4.out _).mono ?_;rintro e P ⟨rfl,U⟩;have W:Hid (af w0 P):=U;clear U)
 simp only[<-B];clear l B;have D:Hid (af w0 P.drew):=aj W.out;refine yO (af w0) [1,2,4,5,0,3,6,0,7,8] D.out ?_
 repeat refine zO f.out ?_
 refine zZ ?_;refine(a5.out _).mono ?_;rintro e ap ⟨rfl,X⟩;have E:Hid (af w0 ap):=ae D.out X;clear X;refine⟨_,rfl,E.out,jO ?_⟩;refine zZ ?_;refine(a6.out _).mono ?_;rintro e Q ⟨rfl,Y⟩;have o:Hid (af w0 Q):=ae E.out Y;clear Y;refine⟨_,rfl,o.out,jO ?_⟩
 repeat refine zO f.out ?_
 refine ag ?_;obtain⟨s,t,u⟩:=f.out Q o.out;clear W E D
 go_wp2_with(first
  |(go_at_call 39;(with_reducible show Calls _ _ #[_,.bool false] _ _);refine(be.out _).mono ?_;rintro e b ⟨rfl,F⟩;have G:Hid (af w0 (b.alloc (.cells (aS n false C c) 71))):=ah (ae o.out F) _;have a8:Hid (aa (b.alloc (.cells (aS n false C c) 71)) b.heap.size (aS n false C c) 71):=aa.new _ _ _ _ rfl;have a9:Hid (w0.heap.size<=b.heap.size):=Nat.le_trans o.out.size F.size;obtain⟨s,t,u⟩:=f.out _ G.out;clear F)
  |(go_at_call 40;(with_reducible show Calls _ _ #[.agg #[_,.bool false,_,_],_] _ _);refine(a7.out _ (m.out.trans (G.out.mono m.out.size))).mono ?_;rintro e av ⟨rfl,H⟩;have Z:Hid (af w0 av):=ae G.out H;have ab:=Lib.hid (a8.out.below H);obtain⟨s,t,u⟩:=f.out _ Z.out;obtain⟨a0,a1,a2,a3⟩:=eI ab.out;clear H)
  |(go_at_call 39;refine(bf.out _).mono ?_;rintro e y ⟨rfl,J⟩;have bb:Hid (af w0 y):=ae Z.out J;have ac:=Lib.hid (ab.out.below J);clear J)
  |((with_reducible show wpList _ _ _ (⟨none,Op.store 71 _ (.tmp 47),_,_,_,_⟩::_) _ _);refine bG rfl 71 _ _ rfl 71 b.heap.size 0 (aS n false C c) (aS n true C k).toList rfl rfl ac.out pn (by show 4<=4;omega) (by intro v g;simp only[List.mem_cons,List.not_mem_nil,or_false]at g;rcases g with rfl|rfl|rfl|rfl<;>rfl) ?_;rw[ky];have ad:Hid (af w0 (y.setRow b.heap.size (aS n true C k))):=below_setRow bb.out a9.out _;have bd:Hid (aa (y.setRow b.heap.size (aS n true C k)) b.heap.size (aS n true C k) 71):=ac.out.set _;obtain⟨s,t,u⟩:=f.out _ ad.out;obtain⟨a0,a1,a2,a3⟩:=eI bd.out))
 go_ret3
 exact dC.err am.out (m.out.trans (ad.out.mono m.out.size))
theorem FT (n:Nat) (A:Option Addr) (N a:Nat) (d:List Bool) (w:World) (t:N=n* n) (bx:N<=4194304) (j:dW n n N=true) (m:SR vB false w A N a d) (u:cK n true=true) (l:cK n false=true) (Q:gQ n ((n-1)/2) false d=false) (S:gQ n ((n-1)/2) true d=false):Calls Tryz.prog 14 #[cX n n A N a] w (dC w (cu n n d)):=by
 have T:jE n d=none:=by
  unfold jE;rw[l,Q,Bool.true_and,if_neg oD,u,S,Bool.true_and,if_neg oD]
 have ad:cu n n d=([],0,18):=by
  unfold cu;rw[<-m.hn,j,if_neg oD,if_neg (λh=>by rcases h with h|⟨h,y⟩;exact h rfl;rw[Int.toNat_natCast]at h y;rw[l]at y;cases y),Int.toNat_natCast,T]
 have hg:15<=n/\n<=161:=by have h:=jA l;omega
 have a9:Hid (∀V,Calls Tryz.prog 37 #[cX n n A N a] V λe w'=>e= .returned (.bool true)/\Below V.heap.size V w'):=λV=>by rw[<-j];exact gO _ _ A N a V oO
 have bb:Hid (∀V,Calls Tryz.prog 38 #[.int .i64 n,.bool true] V λe w'=>e= .returned (.bool true)/\Below V.heap.size V w'):=λV=>by have h:=cF n true V oO;rw[u]at h;exact h
 have bd:Hid (∀V,Calls Tryz.prog 38 #[.int .i64 n,.bool false] V λe w'=>e= .returned (.bool true)/\Below V.heap.size V w'):=λV=>by have h:=cF n false V oO;rw[l]at h;exact h
 obtain⟨C,f⟩:∃C,C=(n-1)/2:=⟨_,rfl⟩;obtain⟨g,D⟩:∃x,x=aM false:=⟨_,rfl⟩;obtain⟨i,E⟩:∃x,x=aM true:=⟨_,rfl⟩;have bt:Hid (∀V,Calls Tryz.prog 39 #[.int .i64 n,.bool false] V λe w'=>e= .returned (bO n false C g)/\Below V.heap.size V w'):=λV=>by rw[f,D];exact dK n false V oO oO
 have bv:Hid (∀V,Calls Tryz.prog 39 #[.int .i64 n,.bool true] V λe w'=>e= .returned (bO n true C i)/\Below V.heap.size V w'):=λV=>by rw[f,E];exact dK n true V oO oO
 have be:Hid (∀V,af w V->Calls Tryz.prog 40 #[bO n false C g,cX n n A N a] V λe w'=>e= .returned (.bool false)/\Below V.heap.size V w'):=λV z=>by have h:=lE n C g false n A N a d V D oO oO oO t (m.below z);rw[f,Q,<-f]at h;exact h
 have bf:Hid (∀V,af w V->Calls Tryz.prog 40 #[bO n true C i,cX n n A N a] V λe w'=>e= .returned (.bool false)/\Below V.heap.size V w'):=λV z=>by have h:=lE n C i true n A N a d V E oO oO oO t (m.below z);rw[f,S,<-f]at h;exact h
 have a5:=Lib.hid ad;clear ad T j m u l t f D E;have b:=iG w n n A N a;obtain⟨w0,r⟩:∃w0,w0=w.alloc (pP n n A N a):=⟨_,rfl⟩;have k:Hid (Below w.heap.size w w0):=by show Below _ _ _;rw[r];exact ax _ _
 obtain⟨U,F⟩:∃U,U=w.heap.size:=⟨_,rfl⟩;rw[<-r,<-F]at b;go_enter Tryz.func14,Tryz.ntmps14;go_wp2_with(go_at_call 37;(rw[<-r]);refine(a9.out _).mono ?_;rintro e W ⟨rfl,al⟩;have am:Hid (af w0 W):=al;clear al)
 simp only[<-F];clear r F;have G:Hid (af w0 W.drew):=aj am.out;refine yO (af w0) [1,2,4,5,0,3,6,0,7,8] G.out ?_
 repeat refine zO b.out ?_
 refine zZ ?_;refine(bb.out _).mono ?_;rintro e a6 ⟨rfl,ap⟩;have H:Hid (af w0 a6):=ae G.out ap;clear ap;refine⟨_,rfl,H.out,jO ?_⟩;refine zZ ?_;refine(bd.out _).mono ?_;rintro e X ⟨rfl,av⟩;have s:Hid (af w0 X):=ae H.out av;clear av;refine⟨_,rfl,s.out,jO ?_⟩
 repeat refine zO b.out ?_
 refine ag ?_;obtain⟨o,p,q⟩:=b.out X s.out;clear am H G
 go_wp2_with(first
  |(go_at_call 39;(with_reducible show Calls _ _ #[_,.bool false] _ _);refine(bt.out _).mono ?_;rintro e c ⟨rfl,J⟩;have K:Hid (af w0 (c.alloc (.cells (aS n false C g) 71))):=ah (ae s.out J) _;have bi:Hid (aa (c.alloc (.cells (aS n false C g) 71)) c.heap.size (aS n false C g) 71):=aa.new _ _ _ _ rfl;have bo:Hid (w0.heap.size<=c.heap.size):=Nat.le_trans s.out.size J.size;obtain⟨o,p,q⟩:=b.out _ K.out;clear J)
  |(go_at_call 40;(with_reducible show Calls _ _ #[.agg #[_,.bool false,_,_],_] _ _);refine(be.out _ (k.out.trans (K.out.mono k.out.size))).mono ?_;rintro e a7 ⟨rfl,L⟩;have a0:Hid (af w0 a7):=ae K.out L;have a1:=Lib.hid (bi.out.below L);obtain⟨o,p,q⟩:=b.out _ a0.out;obtain⟨Y,Z,ab,ac⟩:=eI a1.out;clear L)
  |(go_at_call 39;refine(bv.out _).mono ?_;rintro e B ⟨rfl,M⟩;have bq:Hid (af w0 B):=ae a0.out M;have a2:=Lib.hid (a1.out.below M);clear M)
  |((with_reducible show wpList _ _ _ (⟨none,Op.store 71 _ (.tmp 47),_,_,_,_⟩::_) _ _);refine bG rfl 71 _ _ rfl 71 c.heap.size 0 (aS n false C g) (aS n true C i).toList rfl rfl a2.out pn (by show 4<=4;omega) (by intro v j;simp only[List.mem_cons,List.not_mem_nil,or_false]at j;rcases j with rfl|rfl|rfl|rfl<;>rfl) ?_;rw[ky];have O:Hid (af w0 (B.setRow c.heap.size (aS n true C i))):=below_setRow bq.out bo.out _;have a3:Hid (aa (B.setRow c.heap.size (aS n true C i)) c.heap.size (aS n true C i) 71):=a2.out.set _;obtain⟨o,p,q⟩:=b.out _ O.out;obtain⟨Y,Z,ab,ac⟩:=eI a3.out)
  |(go_at_call 40;refine(bf.out _ (k.out.trans (O.out.mono k.out.size))).mono ?_;rintro e a8 ⟨rfl,P⟩;have a4:Hid (af w0 a8):=ae O.out P;have bs:=Lib.hid (a3.out.below P);obtain⟨o,p,q⟩:=b.out _ a4.out;obtain⟨Y,Z,ab,ac⟩:=eI bs.out;clear P))
 go_ret3
 exact dC.err a5.out (k.out.trans (a4.out.mono k.out.size))
theorem GI (n:Nat) (A:Option Addr) (N a:Nat) (d:List Bool) (w:World) (J:N=n* n) (bi:N<=4194304) (g:dW n n N=true) (p:SR vB false w A N a d) (i:cK n true=true) (q:cK n false=false) (K:gQ n ((n-1)/2) true d=false):Calls Tryz.prog 14 #[cX n n A N a] w (dC w (cu n n d)):=by
 have L:jE n d=none:=by
  unfold jE;rw[q,Bool.false_and,if_neg oD,i,K,Bool.true_and,if_neg oD]
 have Q:cu n n d=([],0,18):=by
  unfold cu;rw[<-p.hn,g,if_neg oD,if_neg (λh=>by rcases h with h|⟨h,ad⟩;exact h rfl;rw[Int.toNat_natCast]at h ad;rw[i]at h;cases h),Int.toNat_natCast,L]
 have hg:15<=n/\n<=161:=by have h:=jA i;omega
 have a4:Hid (∀V,Calls Tryz.prog 37 #[cX n n A N a] V λe w'=>e= .returned (.bool true)/\Below V.heap.size V w'):=λV=>by rw[<-g];exact gO _ _ A N a V oO
 have a5:Hid (∀V,Calls Tryz.prog 38 #[.int .i64 n,.bool true] V λe w'=>e= .returned (.bool true)/\Below V.heap.size V w'):=λV=>by have h:=cF n true V oO;rw[i]at h;exact h
 have a6:Hid (∀V,Calls Tryz.prog 38 #[.int .i64 n,.bool false] V λe w'=>e= .returned (.bool false)/\Below V.heap.size V w'):=λV=>by have h:=cF n false V oO;rw[q]at h;exact h
 obtain⟨C,j⟩:∃C,C=(n-1)/2:=⟨_,rfl⟩;obtain⟨k,S⟩:∃x,x=aM false:=⟨_,rfl⟩;obtain⟨c,y⟩:∃x,x=aM true:=⟨_,rfl⟩;have be:Hid (∀V,Calls Tryz.prog 39 #[.int .i64 n,.bool false] V λe w'=>e= .returned (bO n false C k)/\Below V.heap.size V w'):=λV=>by rw[j,S];exact dK n false V oO oO
 have bf:Hid (∀V,Calls Tryz.prog 39 #[.int .i64 n,.bool true] V λe w'=>e= .returned (bO n true C c)/\Below V.heap.size V w'):=λV=>by rw[j,y];exact dK n true V oO oO
 have a7:Hid (∀V,af w V->Calls Tryz.prog 40 #[bO n true C c,cX n n A N a] V λe w'=>e= .returned (.bool false)/\Below V.heap.size V w'):=λV al=>by have h:=lE n C c true n A N a d V y oO oO oO J (p.below al);rw[j,K,<-j]at h;exact h
 have am:=Lib.hid Q;clear Q L g p i q J j S y;have f:=iG w n n A N a;obtain⟨w0,l⟩:∃w0,w0=w.alloc (pP n n A N a):=⟨_,rfl⟩;have m:Hid (Below w.heap.size w w0):=by show Below _ _ _;rw[l];exact ax _ _
 obtain⟨M,z⟩:∃M,M=w.heap.size:=⟨_,rfl⟩;rw[<-l,<-z]at f;go_enter Tryz.func14,Tryz.ntmps14;go_wp2_with(go_at_call 37;(rw[<-l]);refine(a4.out _).mono ?_;rintro e O ⟨rfl,T⟩;have U:Hid (af w0 O):=T;clear T)
 simp only[<-z];clear l z;have B:Hid (af w0 O.drew):=aj U.out;refine yO (af w0) [1,2,4,5,0,3,6,0,7,8] B.out ?_
 repeat refine zO f.out ?_
 refine zZ ?_;refine(a5.out _).mono ?_;rintro e ap ⟨rfl,W⟩;have D:Hid (af w0 ap):=ae B.out W;clear W;refine⟨_,rfl,D.out,jO ?_⟩;refine zZ ?_;refine(a6.out _).mono ?_;rintro e P ⟨rfl,X⟩;have o:Hid (af w0 P):=ae D.out X;clear X;refine⟨_,rfl,o.out,jO ?_⟩
 repeat refine zO f.out ?_
 refine ag ?_;obtain⟨r,s,t⟩:=f.out P o.out;clear U D B
 go_wp2_with(first
  |(go_at_call 39;(with_reducible show Calls _ _ #[_,.bool false] _ _);refine(be.out _).mono ?_;rintro e b ⟨rfl,E⟩;have Y:Hid (af w0 (b.alloc (.cells (aS n false C k) 71))):=ah (ae o.out E) _;have a8:Hid (aa (b.alloc (.cells (aS n false C k) 71)) b.heap.size (aS n false C k) 71):=aa.new _ _ _ _ rfl;have a9:Hid (w0.heap.size<=b.heap.size):=Nat.le_trans o.out.size E.size;obtain⟨r,s,t⟩:=f.out _ Y.out;clear E)
  |(go_at_call 39;refine(bf.out _).mono ?_;rintro e u ⟨rfl,F⟩;have bb:Hid (af w0 u):=ae Y.out F;have Z:=Lib.hid (a8.out.below F);clear F)
  |((with_reducible show wpList _ _ _ (⟨none,Op.store 71 _ (.tmp 47),_,_,_,_⟩::_) _ _);refine bG rfl 71 _ _ rfl 71 b.heap.size 0 (aS n false C k) (aS n true C c).toList rfl rfl Z.out pn (by show 4<=4;omega) (by intro v g;simp only[List.mem_cons,List.not_mem_nil,or_false]at g;rcases g with rfl|rfl|rfl|rfl<;>rfl) ?_;rw[ky];have G:Hid (af w0 (u.setRow b.heap.size (aS n true C c))):=below_setRow bb.out a9.out _;have ab:Hid (aa (u.setRow b.heap.size (aS n true C c)) b.heap.size (aS n true C c) 71):=Z.out.set _;obtain⟨r,s,t⟩:=f.out _ G.out;obtain⟨av,a0,a1,a2⟩:=eI ab.out)
  |(go_at_call 40;refine(a7.out _ (m.out.trans (G.out.mono m.out.size))).mono ?_;rintro e a3 ⟨rfl,H⟩;have ac:Hid (af w0 a3):=ae G.out H;have bd:=Lib.hid (ab.out.below H);obtain⟨r,s,t⟩:=f.out _ ac.out;obtain⟨av,a0,a1,a2⟩:=eI bd.out;clear H))
 go_ret3
 exact dC.err am.out (m.out.trans (ac.out.mono m.out.size))
def pmF:Option (Nat×Nat)->Int×Int×Int
 |none=>(0,0,17)
 |some q=>((q.1:Int),(q.2:Int),0)
theorem sM {c:Bool} {a:List Bool} (h:a.length=e8 c+gB c+eF c* 4):gH c a=pmF (kn c a):=by
 unfold gH;rw[if_neg (λb=>b h)];cases kn c a<;>rfl
theorem qP {c:Bool} {b:List Bool} {q:Nat×Nat} (h:kn c b=some q):1<=q.1/\q.1<=4096/\1<=q.2/\q.2<=4096:=by
 unfold kn at h;rw[Option.map_eq_some_iff]at h;obtain⟨v,-,rfl⟩:=h;have a:=jh (bH v 4) 0 (e8 c);have d:=jh (bH v 4) (e8 c) (gB c);have e:2^e8 c<=2048/\2^gB c<=2048:=by cases c<;>decide
 simp only;omega
theorem Cf (n:Nat) (A:Option Addr) (N f:Nat) (d:List Bool) (w:World) (ab:N=n* n) (cs:N<=4194304) (ac:dW n n N=true) (U:SR vB false w A N f d) (ce:Bool) (ch:cK n true=ce) (X:cK n false=true) (bq:gQ n ((n-1)/2) false d=true):Calls Tryz.prog 14 #[cX n n A N f] w (dC w (cu n n d)):=by
 have ci:jE n d=some false:=by
  unfold jE;rw[X,bq,Bool.true_and,if_pos rfl]
 have bb:cu n n d=jx n d false:=by
  unfold cu;rw[<-U.hn,ac,if_neg oD,if_neg (λh=>by rcases h with h|⟨h,bs⟩;exact h rfl;rw[Int.toNat_natCast]at h bs;rw[X]at bs;cases bs),Int.toNat_natCast,ci]
 have hg:15<=n/\n<=161:=by have h:=jA X;omega
 have d8:Hid (∀V,Calls Tryz.prog 37 #[cX n n A N f] V λe w'=>e= .returned (.bool true)/\Below V.heap.size V w'):=λV=>by rw[<-ac];exact gO _ _ A N f V oO
 have d9:Hid (∀V,Calls Tryz.prog 38 #[.int .i64 n,.bool true] V λe w'=>e= .returned (.bool ce)/\Below V.heap.size V w'):=λV=>by have h:=cF n true V oO;rw[ch]at h;exact h
 have ea:Hid (∀V,Calls Tryz.prog 38 #[.int .i64 n,.bool false] V λe w'=>e= .returned (.bool true)/\Below V.heap.size V w'):=λV=>by have h:=cF n false V oO;rw[X]at h;exact h
 obtain⟨C,s⟩:∃C,C=(n-1)/2:=⟨_,rfl⟩;obtain⟨t,P⟩:∃x,x=aM false:=⟨_,rfl⟩;obtain⟨d2,cv⟩:∃x,x=aM true:=⟨_,rfl⟩;have fr:Hid (∀V,Calls Tryz.prog 39 #[.int .i64 n,.bool false] V λe w'=>e= .returned (bO n false C t)/\Below V.heap.size V w'):=λV=>by rw[s,P];exact dK n false V oO oO
 have f7:Hid (∀V,Calls Tryz.prog 39 #[.int .i64 n,.bool true] V λe w'=>e= .returned (bO n true C d2)/\Below V.heap.size V w'):=λV=>by rw[s,cv];exact dK n true V oO oO
 have ec:Hid (∀V,af w V->Calls Tryz.prog 40 #[bO n false C t,cX n n A N f] V λe w'=>e= .returned (.bool true)/\Below V.heap.size V w'):=λV u=>by have h:=lE n C t false n A N f d V P oO oO oO ab (U.below u);rw[s,bq,<-s]at h;exact h
 have cx:cK n false=true:=X;obtain⟨c2,c3,c4,f1,f2⟩:=jA cx;rw[<-s]at c2 c3 c4;have f8:aM false<=7:=by decide
 obtain⟨M,a1⟩:∃M,M=nG n C false d:=⟨_,rfl⟩;obtain⟨O,a2⟩:∃O,O=cE n d (cn C false):=⟨_,rfl⟩;obtain⟨m,a3⟩:∃m,m=kn false O:=⟨_,rfl⟩;have ed:Hid (M=false->cu n n d=([],0,18)):=by
  show _->_;intro h;rw[bb];unfold jx;rw[<-s,<-a1,h,if_pos rfl]
 have ef:Hid (M=true->m=none->cu n n d=([],0,21)):=by
  show _->_->_;intro h j;rw[bb];unfold jx;rw[<-s,<-a1,h,if_neg oD,<-a2,<-a3,j]
 have eh:Hid (M=true->∀q,m=some q->cu n n d=if(dN (q.1:Int) false&&(ai q.1 false==n)&&decide (q.2<ay q.1 false))=true then gM n q.1 false q.2 d else([],0,21)):=by
  show _->∀q,_->_;intro h q j;rw[bb];unfold jx;rw[<-s,<-a1,h,if_neg oD,<-a2,<-a3,j]
 have ei:Hid (gH false O=pmF m):=by
  show _=_;rw[a3];exact sM (by rw[a2];unfold cE;rw[List.length_map,eS];rfl)
 have ek:Hid (∀q,m=some q->1<=q.1/\q.1<=4096/\1<=q.2/\q.2<=4096):=by
  show∀q,_->_;intro q h;rw[a3]at h;exact qP h
 have el:Hid (∀V,af w V->Calls Tryz.prog 41 #[bO n false C t,cX n n A N f] V λe w'=>e= .returned (.bool M)/\Below V.heap.size V w'):=λV u=>by rw[a1];exact oy n C t false n A N f d V P (by rw[P];omega) (by rw[P];omega) oO ab cs (U.below u)
 have em:Hid (∀V,Calls Tryz.prog 43 #[bO n false C t] V λe w'=>∃v,e= .returned v/\Hid (SP w' v (cn C false))/\Below V.heap.size V w'):=λV=>by
  rw[P];exact(j5 n C false V oO oO).mono λe w' ⟨v,ad,j,bt⟩=>⟨v,ad,j.1,bt⟩
 have en:Hid (∀V v,af w V->SP V v (cn C false)->Calls Tryz.prog 42 #[cX n n A N f,v] V λe w'=>∃db k,e= .returned (.slice (some ⟨db,0,none⟩) k k)/\Hid (SR vB false w' (some ⟨db,0,none⟩) k k O)/\Below V.heap.size V w'):=λV v u ac=>
  (mF n n A N f d _ v V oO cs (U.below u) ac (by rw[eS];decide) (λp d3=>by
   have:=kj oO d3
   exact⟨by omega,by omega,by rw[ab];exact iF oO oO⟩)).mono λe w' ⟨db,k,ad,j,bt,d4⟩=>⟨db,k,ad,by rw[a2];exact bt.sr (by rw[j];unfold cE;rw[List.length_map]) (by rw[j,eS];decide),d4⟩
 have eq:Hid (∀V B k al,SR vB false V B k al O->Calls Tryz.prog 25 #[.slice B k al,.bool false] V (FQ V (pmF m).1 (pmF m).2.1 (pmF m).2.2)):=λV B k al h=>by rw[<-ei.out];exact nI false O B k al V h
 have bd:Hid (∀V (L:Int),Calls Tryz.prog 29 #[aP L false] V λe w'=>e= .returned (.bool (dN L false))/\Below V.heap.size V w'):=λV L=>eV L false V;have bz:Hid (∀V (L:Nat),dN (L:Int) false=true->Calls Tryz.prog 36 #[aP L false] V λe w'=>e= .returned (.int .i64 ((ai L false:Nat):Int))/\Below V.heap.size V w'):=λV L h=>jX L false V (by obtain⟨k,e,_,j,_⟩:=fL h;omega);have c5:Hid (∀V (L:Nat),dN (L:Int) false=true->Calls Tryz.prog 44 #[aP L false] V λe w'=>e= .returned (.int .i64 ((ay L false:Nat):Int))/\Below V.heap.size V w'):=λV L h=>j7 L false V (by obtain⟨k,e,_,j,_⟩:=fL h;omega);have er:Hid (∀V (L k:Nat),af w V->dN (L:Int) false=true->ai L false=n->1<=k->k<ay L false->Calls Tryz.prog 45 #[aP L false,cX n n A N f,.int .i64 k] V (dC V (gM n L false k d))):=λV L k u g hs ad j=>by
  obtain⟨al,e,fz,f0,d5⟩:=fL g;exact qd L false k n n A N f d V oO oO (λh=>by have:=d5 h;omega) hs.symm ad j ab (U.below u)
 clear bb ci ac U ch X ab s P cv cx a1 a2 a3 c2 c3 c4 bq;have F:=iG w n n A N f;obtain⟨w0,be⟩:∃w0,w0=w.alloc (pP n n A N f):=⟨_,rfl⟩;have o:Hid (Below w.heap.size w w0):=by show Below _ _ _;rw[be];exact ax _ _
 obtain⟨G,b1⟩:∃G,G=w.heap.size:=⟨_,rfl⟩;rw[<-be,<-b1]at F;go_enter Tryz.func14,Tryz.ntmps14;go_wp2_with(go_at_call 37;(rw[<-be]);refine(d8.out _).mono ?_;rintro e ck ⟨rfl,c6⟩;have c7:Hid (af w0 ck):=c6;clear c6)
 simp only[<-b1];clear be b1;have b2:Hid (af w0 ck.drew):=aj c7.out;refine yO (af w0) [1,2,4,5,0,3,6,0,7,8] b2.out ?_
 repeat refine zO F.out ?_
 refine zZ ?_;refine(d9.out _).mono ?_;rintro e d6 ⟨rfl,c8⟩;have b3:Hid (af w0 d6):=ae b2.out c8;clear c8;refine⟨_,rfl,b3.out,jO ?_⟩;refine zZ ?_;refine(ea.out _).mono ?_;rintro e co ⟨rfl,c9⟩;have bf:Hid (af w0 co):=ae b3.out c9;clear c9;refine⟨_,rfl,bf.out,jO ?_⟩
 repeat refine zO F.out ?_
 refine ag ?_;obtain⟨am,ap,av⟩:=F.out co bf.out;clear c7 b3 b2
 go_wp2_with(first
  |(go_at_call 39;(with_reducible show Calls _ _ #[_,.bool false] _ _);refine(fr.out _).mono ?_;rintro e a9 ⟨rfl,b4⟩;have b5:Hid (af w0 (a9.alloc (.cells (aS n false C t) 71))):=ah (ae bf.out b4) _;have es:Hid (aa (a9.alloc (.cells (aS n false C t) 71)) a9.heap.size (aS n false C t) 71):=aa.new _ _ _ _ rfl;have f3:Hid (w0.heap.size<=a9.heap.size):=Nat.le_trans bf.out.size b4.size;obtain⟨am,ap,av⟩:=F.out _ b5.out;clear b4)
  |(go_at_call 40;(with_reducible show Calls _ _ #[.agg #[_,.bool false,_,_],_] _ _);refine(ec.out _ (o.out.trans (b5.out.mono o.out.size))).mono ?_;rintro e d7 ⟨rfl,b6⟩;have b7:Hid (af w0 d7):=ae b5.out b6;have da:=Lib.hid (es.out.below b6);obtain⟨am,ap,av⟩:=F.out _ b7.out;obtain⟨bv,bx,cp,cq⟩:=eI da.out;clear b6)
  |(go_at_call 41;refine(el.out _ (o.out.trans (b7.out.mono o.out.size))).mono ?_;rintro e y ⟨rfl,b8⟩;have H:Hid (af w0 y):=ae b7.out b8;have et:=Lib.hid (da.out.below b8);obtain⟨am,ap,av⟩:=F.out _ H.out;clear b8;rcases M with _|_))
 all_goals(try(go_ret3;exact dC.err (ed.out oS) (o.out.trans (H.out.mono o.out.size))))
 all_goals
  clear am ap av;have dd:Hid (af y y.drew):=aj (Below.refl _ _);have bi:Hid (∀W,af y W->(W.cell? ⟨G,0,none⟩=some (.int .i64 (n:Int))/\W.cell? ⟨G,1,none⟩=some (.int .i64 (n:Int))/\W.cell? ⟨G,2,none⟩=some (.slice A N f))/\_):=λW Y=>⟨F.out W (H.out.trans (Y.mono H.out.size)),eI (et.out.below Y)⟩;refine yO (af y) [1,2,5,6,0,3,4,7,0,8,9,10,11,12,13,14] dd.out ?_
  repeat refine zO bi.out ?_
  refine zZ ?_;refine(em.out _).mono ?_;rintro e ew ⟨v10,rfl,ds,dv⟩;have ca:Hid (af y ew):=ae dd.out dv;clear dv;refine⟨_,rfl,ca.out,jO ?_⟩;refine zZ ?_;refine(en.out _ _ (o.out.trans ((H.out.trans (ca.out.mono H.out.size)).mono o.out.size)) ds.out).mono ?_;rintro e ex ⟨db,f4,rfl,dx,dy⟩;have dz:Hid (af y ex):=ae ca.out dy;clear dy;refine⟨_,rfl,dz.out,jO ?_⟩;refine zZ ?_;refine(eq.out _ _ _ _ dx.out).mono ?_;rintro e Z ⟨rfl,dE⟩;have bo:Hid (af y Z):=ae dz.out dE;have de:Hid (Below w.heap.size w Z):=o.out.trans ((H.out.trans (bo.out.mono H.out.size)).mono o.out.size);clear dE dx ds;refine⟨_,rfl,bo.out,jO ?_⟩
  repeat refine zO bi.out ?_
  refine ag ?_;rcases m with _|⟨a,z⟩
  ·have D:=Lib.hid (ef.out oS oS);simp only[pmF];go_wp2;go_ret3
   exact dC.err D.out de.out
  ·obtain⟨ey,ez,eA,e0⟩:=ek.out (a,z) rfl;have a0:=Lib.hid (eh.out oS (a,z) rfl);simp only[pmF]at a0 ey ez eA e0⊢;obtain⟨bv,bx,cp,cq⟩:=(bi.out _ bo.out).2;go_wp2;clear bv bx cp cq;obtain⟨c,a4⟩:∃x,x=Z.alloc (bE (a:Int) false):=⟨_,rfl⟩;have r:Hid (Below w.heap.size w c):=by show Below _ _ _;rw[a4];exact ah de.out _
   have dl:Hid (aa c Z.heap.size #[.int .i64 (a:Int),.bool false] 60):=by show aa _ _ _ _;rw[a4];exact aa.new _ _ _ _ rfl
   have dn:Hid (af y c):=by show af _ _;rw[a4];exact ah bo.out _
   rw[<-a4];clear a4;have J:Hid (af c c.drew):=aj (Below.refl _ _);have b:Hid (∀W,af c W->(W.cell? ⟨G,0,none⟩=some (.int .i64 (n:Int))/\W.cell? ⟨G,1,none⟩=some (.int .i64 (n:Int))/\W.cell? ⟨G,2,none⟩=some (.slice A N f))/\W.cell? ⟨Z.heap.size,0,none⟩=some (.int .i64 (a:Int))/\W.cell? ⟨Z.heap.size,1,none⟩=some (.bool false)):=λW Y=>⟨(bi.out W (dn.out.trans (Y.mono dn.out.size))).1,(dl.out.below Y).cell 0 _ rfl,(dl.out.below Y).cell 1 _ rfl⟩;by_cases g:dN (a:Int) false=true;rotate_left
   ·rw[Bool.not_eq_true]at g;have S:Hid (∀V,Calls Tryz.prog 29 #[aP (a:Int) false] V λe w'=>e= .returned (.bool false)/\Below V.heap.size V w'):=λV=>by have h:=bd.out V (a:Int);rw[g]at h;exact h
    have D:Hid (cu n n d=([],0,21)):=by show _=_;rw[a0.out,if_neg (by rw[g];simp)]
    refine yO (af c) [1,0,2,0,3,4,5,7,8,0,6,0,9,10,11,12,13,0,14,0,15,16] J.out ?_
    repeat refine zO b.out ?_
    refine zZ ?_;refine(S.out _).mono ?_;rintro e Q ⟨rfl,l⟩;have i:Hid (af c Q):=ae J.out l;clear l;refine⟨_,rfl,i.out,jO ?_⟩
    repeat refine zO b.out ?_
    repeat
     first
     |refine gu rfl ?_
     |refine fD rfl i.out ?_
     simp only[yQ,yU,yX,yY]
    repeat refine zO b.out ?_
    repeat
     first
     |refine gu rfl ?_
     |refine fD rfl i.out ?_
     simp only[yQ,yU,yX,yY]
    repeat refine zO b.out ?_
    refine ag ?_;go_wp2;go_ret3
    exact dC.err D.out (r.out.trans (i.out.mono r.out.size))
   by_cases a5:ai a false=n;rotate_left
   ·skip
    have S:Hid (∀V,Calls Tryz.prog 29 #[aP (a:Int) false] V λe w'=>e= .returned (.bool true)/\Below V.heap.size V w'):=λV=>by have h:=bd.out V (a:Int);rw[g]at h;exact h
    have a7:Hid (∀V,Calls Tryz.prog 36 #[aP (a:Int) false] V λe w'=>e= .returned (.int .i64 ((ai a false:Nat):Int))/\Below V.heap.size V w'):=λV=>by have h:=bz.out V a g;exact h
    have f5:(((ai a false:Nat):Int)!=(n:Int))=true:=by rw[bne_iff_ne];omega
    have D:Hid (cu n n d=([],0,21)):=by show _=_;rw[a0.out,if_neg (by rw[show(ai a false==n)=false from beq_eq_false_iff_ne.2 a5];simp)]
    refine yO (af c) [1,0,2,0,3,4,5,7,8,0,6,0,9,10,11,12,13,0,14,0,15,16] J.out ?_
    repeat refine zO b.out ?_
    refine zZ ?_;refine(S.out _).mono ?_;rintro e Q ⟨rfl,l⟩;have i:Hid (af c Q):=ae J.out l;clear l;refine⟨_,rfl,i.out,jO ?_⟩
    repeat refine zO b.out ?_
    repeat refine zX b.out ?_
    refine zZ ?_;refine(a7.out _).mono ?_;rintro e a6 ⟨rfl,K⟩;have E:Hid (af c a6):=ae i.out K;clear K;refine⟨_,rfl,E.out,jO ?_⟩
    repeat refine zX b.out ?_
    repeat refine zO b.out ?_
    repeat
     first
     |refine gu rfl ?_
     |refine fD rfl E.out ?_
     simp only[yQ,yU,yX,yY]
    repeat refine zO b.out ?_
    refine ag ?_;go_wp2;go_ret3
    exact dC.err D.out (r.out.trans (E.out.mono r.out.size))
   by_cases f6:z<ay a false;rotate_left
   ·skip
    have S:Hid (∀V,Calls Tryz.prog 29 #[aP (a:Int) false] V λe w'=>e= .returned (.bool true)/\Below V.heap.size V w'):=λV=>by have h:=bd.out V (a:Int);rw[g]at h;exact h
    have a7:Hid (∀V,Calls Tryz.prog 36 #[aP (a:Int) false] V λe w'=>e= .returned (.int .i64 ((n:Nat):Int))/\Below V.heap.size V w'):=λV=>by have h:=bz.out V a g;rw[a5]at h;exact h
    have cb:=Lib.hid (λV=>c5.out V a g);have e9:((ay a false:Nat):Int)<=(z:Int):=oO;have D:Hid (cu n n d=([],0,21)):=by show _=_;rw[a0.out,if_neg (by rw[show decide (z<ay a false)=false from decide_eq_false oO];simp)]
    refine yO (af c) [1,0,2,0,3,4,5,7,8,0,6,0,9,10,11,12,13,0,14,0,15,16] J.out ?_
    repeat refine zO b.out ?_
    refine zZ ?_;refine(S.out _).mono ?_;rintro e Q ⟨rfl,l⟩;have i:Hid (af c Q):=ae J.out l;clear l;refine⟨_,rfl,i.out,jO ?_⟩
    repeat refine zO b.out ?_
    repeat refine zX b.out ?_
    refine zZ ?_;refine(a7.out _).mono ?_;rintro e a6 ⟨rfl,K⟩;have E:Hid (af c a6):=ae i.out K;clear K;refine⟨_,rfl,E.out,jO ?_⟩
    repeat refine zX b.out ?_
    repeat refine zO b.out ?_
    repeat refine zX b.out ?_
    refine zZ ?_;refine(cb.out _).mono ?_;rintro e b9 ⟨rfl,a8⟩;have T:Hid (af c b9):=ae E.out a8;clear a8;refine⟨_,rfl,T.out,jO ?_⟩
    repeat refine zX b.out ?_
    repeat refine zO b.out ?_
    refine ag ?_;go_wp2;go_ret3
    exact dC.err D.out (r.out.trans (T.out.mono r.out.size))
   ·skip
    have S:Hid (∀V,Calls Tryz.prog 29 #[aP (a:Int) false] V λe w'=>e= .returned (.bool true)/\Below V.heap.size V w'):=λV=>by have h:=bd.out V (a:Int);rw[g]at h;exact h
    have a7:Hid (∀V,Calls Tryz.prog 36 #[aP (a:Int) false] V λe w'=>e= .returned (.int .i64 ((n:Nat):Int))/\Below V.heap.size V w'):=λV=>by have h:=bz.out V a g;rw[a5]at h;exact h
    have cb:=Lib.hid (λV=>c5.out V a g);have e9:¬((ay a false:Nat):Int)<=(z:Int):=oO;have D:Hid (cu n n d=gM n a false z d):=by show _=_;rw[a0.out,if_pos (by rw[g,show(ai a false==n)=true from beq_iff_eq.2 a5,show decide (z<ay a false)=true from decide_eq_true oO];rfl)]
    have fb:=Lib.hid (λV u=>er.out V a z u g a5 oO oO);refine yO (af c) [1,0,2,0,3,4,5,7,8,0,6,0,9,10,11,12,13,0,14,0,15,16] J.out ?_
    repeat refine zO b.out ?_
    refine zZ ?_;refine(S.out _).mono ?_;rintro e Q ⟨rfl,l⟩;have i:Hid (af c Q):=ae J.out l;clear l;refine⟨_,rfl,i.out,jO ?_⟩
    repeat refine zO b.out ?_
    repeat refine zX b.out ?_
    refine zZ ?_;refine(a7.out _).mono ?_;rintro e a6 ⟨rfl,K⟩;have E:Hid (af c a6):=ae i.out K;clear K;refine⟨_,rfl,E.out,jO ?_⟩
    repeat refine zX b.out ?_
    repeat refine zO b.out ?_
    repeat refine zX b.out ?_
    refine zZ ?_;refine(cb.out _).mono ?_;rintro e b9 ⟨rfl,a8⟩;have T:Hid (af c b9):=ae E.out a8;clear a8;refine⟨_,rfl,T.out,jO ?_⟩
    repeat refine zX b.out ?_
    repeat refine zO b.out ?_
    refine ag ?_;obtain⟨⟨am,ap,av⟩,bv,bx⟩:=b.out _ T.out;go_wp2_with(go_at_call 45;refine(fb.out _ (r.out.trans (T.out.mono r.out.size))).mono ?_;rintro e fc ⟨fd,fn,fo,rfl,d0,d1⟩;have fv:=Lib.hid d0;have fx:Hid (af c fc):=ae T.out d1;clear d1 d0)
    go_ret3
    rw[D.out];exact⟨fd,fn,fo,rfl,fv.out,r.out.trans (fx.out.mono r.out.size)⟩
theorem FE (n:Nat) (A:Option Addr) (N f:Nat) (d:List Bool) (w:World) (al:N=n* n) (c5:N<=4194304) (G:dW n n N=true) (P:SR vB false w A N f d) (bf:cK n true=true) (av:cK n false=true) (b1:gQ n ((n-1)/2) false d=false) (b2:gQ n ((n-1)/2) true d=true):Calls Tryz.prog 14 #[cX n n A N f] w (dC w (cu n n d)):=by
 have c2:jE n d=some true:=by
  unfold jE;rw[av,b1,Bool.true_and,if_neg oD,bf,b2,Bool.true_and,if_pos rfl]
 have bq:cu n n d=jx n d true:=by
  unfold cu;rw[<-P.hn,G,if_neg oD,if_neg (λh=>by rcases h with h|⟨h,b3⟩;exact h rfl;rw[Int.toNat_natCast]at h b3;rw[av]at b3;cases b3),Int.toNat_natCast,c2]
 have hg:15<=n/\n<=161:=by have h:=jA av;omega
 have el:Hid (∀V,Calls Tryz.prog 37 #[cX n n A N f] V λe w'=>e= .returned (.bool true)/\Below V.heap.size V w'):=λV=>by rw[<-G];exact gO _ _ A N f V oO
 have em:Hid (∀V,Calls Tryz.prog 38 #[.int .i64 n,.bool true] V λe w'=>e= .returned (.bool true)/\Below V.heap.size V w'):=λV=>by have h:=cF n true V oO;rw[bf]at h;exact h
 have en:Hid (∀V,Calls Tryz.prog 38 #[.int .i64 n,.bool false] V λe w'=>e= .returned (.bool true)/\Below V.heap.size V w'):=λV=>by have h:=cF n false V oO;rw[av]at h;exact h
 obtain⟨C,m⟩:∃C,C=(n-1)/2:=⟨_,rfl⟩;obtain⟨Q,b6⟩:∃x,x=aM false:=⟨_,rfl⟩;obtain⟨s,Z⟩:∃x,x=aM true:=⟨_,rfl⟩;have f8:Hid (∀V,Calls Tryz.prog 39 #[.int .i64 n,.bool false] V λe w'=>e= .returned (bO n false C Q)/\Below V.heap.size V w'):=λV=>by rw[m,b6];exact dK n false V oO oO
 have f9:Hid (∀V,Calls Tryz.prog 39 #[.int .i64 n,.bool true] V λe w'=>e= .returned (bO n true C s)/\Below V.heap.size V w'):=λV=>by rw[m,Z];exact dK n true V oO oO
 have eq:Hid (∀V,af w V->Calls Tryz.prog 40 #[bO n false C Q,cX n n A N f] V λe w'=>e= .returned (.bool false)/\Below V.heap.size V w'):=λV o=>by have h:=lE n C Q false n A N f d V b6 oO oO oO al (P.below o);rw[m,b1,<-m]at h;exact h
 have er:Hid (∀V,af w V->Calls Tryz.prog 40 #[bO n true C s,cX n n A N f] V λe w'=>e= .returned (.bool true)/\Below V.heap.size V w'):=λV o=>by have h:=lE n C s true n A N f d V Z oO oO oO al (P.below o);rw[m,b2,<-m]at h;exact h
 have c6:cK n true=true:=bf;obtain⟨c7,c8,c9,gi,go⟩:=jA c6;rw[<-m]at c7 c8 c9;have gt:aM true<=7:=by decide
 obtain⟨S,a5⟩:∃S,S=nG n C true d:=⟨_,rfl⟩;obtain⟨T,a6⟩:∃T,T=cE n d (cn C true):=⟨_,rfl⟩;obtain⟨t,a7⟩:∃t,t=kn true T:=⟨_,rfl⟩;have es:Hid (S=false->cu n n d=([],0,18)):=by
  show _->_;intro h;rw[bq];unfold jx;rw[<-m,<-a5,h,if_pos rfl]
 have et:Hid (S=true->t=none->cu n n d=([],0,21)):=by
  show _->_->_;intro h j;rw[bq];unfold jx;rw[<-m,<-a5,h,if_neg oD,<-a6,<-a7,j]
 have ew:Hid (S=true->∀q,t=some q->cu n n d=if(dN (q.1:Int) true&&(ai q.1 true==n)&&decide (q.2<ay q.1 true))=true then gM n q.1 true q.2 d else([],0,21)):=by
  show _->∀q,_->_;intro h q j;rw[bq];unfold jx;rw[<-m,<-a5,h,if_neg oD,<-a6,<-a7,j]
 have ex:Hid (gH true T=pmF t):=by
  show _=_;rw[a7];exact sM (by rw[a6];unfold cE;rw[List.length_map,eS];rfl)
 have ey:Hid (∀q,t=some q->1<=q.1/\q.1<=4096/\1<=q.2/\q.2<=4096):=by
  show∀q,_->_;intro q h;rw[a7]at h;exact qP h
 have ez:Hid (∀V,af w V->Calls Tryz.prog 41 #[bO n true C s,cX n n A N f] V λe w'=>e= .returned (.bool S)/\Below V.heap.size V w'):=λV o=>by rw[a5];exact oy n C s true n A N f d V Z (by rw[Z];omega) (by rw[Z];omega) oO al c5 (P.below o)
 have eA:Hid (∀V,Calls Tryz.prog 43 #[bO n true C s] V λe w'=>∃v,e= .returned v/\Hid (SP w' v (cn C true))/\Below V.heap.size V w'):=λV=>by
  rw[Z];exact(j5 n C true V oO oO).mono λe w' ⟨v,a0,j,b4⟩=>⟨v,a0,j.1,b4⟩
 have e0:Hid (∀V v,af w V->SP V v (cn C true)->Calls Tryz.prog 42 #[cX n n A N f,v] V λe w'=>∃db k,e= .returned (.slice (some ⟨db,0,none⟩) k k)/\Hid (SR vB false w' (some ⟨db,0,none⟩) k k T)/\Below V.heap.size V w'):=λV v o G=>
  (mF n n A N f d _ v V oO c5 (P.below o) G (by rw[eS];decide) (λp ec=>by
   have:=kj oO ec
   exact⟨by omega,by omega,by rw[al];exact iF oO oO⟩)).mono λe w' ⟨db,k,a0,j,b4,ed⟩=>⟨db,k,a0,by rw[a6];exact b4.sr (by rw[j];unfold cE;rw[List.length_map]) (by rw[j,eS];decide),ed⟩
 have e9:Hid (∀V B k a1,SR vB false V B k a1 T->Calls Tryz.prog 25 #[.slice B k a1,.bool true] V (FQ V (pmF t).1 (pmF t).2.1 (pmF t).2.2)):=λV B k a1 h=>by rw[<-ex.out];exact nI true T B k a1 V h
 have bs:Hid (∀V (L:Int),Calls Tryz.prog 29 #[aP L true] V λe w'=>e= .returned (.bool (dN L true))/\Below V.heap.size V w'):=λV L=>eV L true V;have b7:Hid (∀V (L:Nat),dN (L:Int) true=true->Calls Tryz.prog 36 #[aP L true] V λe w'=>e= .returned (.int .i64 ((ai L true:Nat):Int))/\Below V.heap.size V w'):=λV L h=>jX L true V (by obtain⟨k,e,_,j,_⟩:=fL h;omega);have da:Hid (∀V (L:Nat),dN (L:Int) true=true->Calls Tryz.prog 44 #[aP L true] V λe w'=>e= .returned (.int .i64 ((ay L true:Nat):Int))/\Below V.heap.size V w'):=λV L h=>j7 L true V (by obtain⟨k,e,_,j,_⟩:=fL h;omega);have fb:Hid (∀V (L k:Nat),af w V->dN (L:Int) true=true->ai L true=n->1<=k->k<ay L true->Calls Tryz.prog 45 #[aP L true,cX n n A N f,.int .i64 k] V (dC V (gM n L true k d))):=λV L k o g hs a0 j=>by
  obtain⟨a1,e,ge,gg,ef⟩:=fL g;exact qd L true k n n A N f d V oO oO (λh=>by have:=ef h;omega) hs.symm a0 j al (P.below o)
 clear bq c2 G P bf av al m b6 Z c6 a5 a6 a7 c7 c8 c9 b1 b2;have u:=iG w n n A N f;obtain⟨w0,bt⟩:∃w0,w0=w.alloc (pP n n A N f):=⟨_,rfl⟩;have l:Hid (Below w.heap.size w w0):=by show Below _ _ _;rw[bt];exact ax _ _
 obtain⟨H,b8⟩:∃H,H=w.heap.size:=⟨_,rfl⟩;rw[<-bt,<-b8]at u;go_enter Tryz.func14,Tryz.ntmps14;go_wp2_with(go_at_call 37;(rw[<-bt]);refine(el.out _).mono ?_;rintro e c3 ⟨rfl,dd⟩;have de:Hid (af w0 c3):=dd;clear dd)
 simp only[<-b8];clear bt b8;have b9:Hid (af w0 c3.drew):=aj de.out;refine yO (af w0) [1,2,4,5,0,3,6,0,7,8] b9.out ?_
 repeat refine zO u.out ?_
 refine zZ ?_;refine(em.out _).mono ?_;rintro e eh ⟨rfl,dl⟩;have ca:Hid (af w0 eh):=ae b9.out dl;clear dl;refine⟨_,rfl,ca.out,jO ?_⟩;refine zZ ?_;refine(en.out _).mono ?_;rintro e c4 ⟨rfl,dn⟩;have bv:Hid (af w0 c4):=ae ca.out dn;clear dn;refine⟨_,rfl,bv.out,jO ?_⟩
 repeat refine zO u.out ?_
 refine ag ?_;obtain⟨U,X,Y⟩:=u.out c4 bv.out;clear de ca b9
 go_wp2_with(first
  |(go_at_call 39;(with_reducible show Calls _ _ #[_,.bool false] _ _);refine(f8.out _).mono ?_;rintro e J ⟨rfl,cb⟩;have ce:Hid (af w0 (J.alloc (.cells (aS n false C Q) 71))):=ah (ae bv.out cb) _;have fc:Hid (aa (J.alloc (.cells (aS n false C Q) 71)) J.heap.size (aS n false C Q) 71):=aa.new _ _ _ _ rfl;have fd:Hid (w0.heap.size<=J.heap.size):=Nat.le_trans bv.out.size cb.size;obtain⟨U,X,Y⟩:=u.out _ ce.out;clear cb)
  |(go_at_call 40;(with_reducible show Calls _ _ #[.agg #[_,.bool false,_,_],_] _ _);refine(eq.out _ (l.out.trans (ce.out.mono l.out.size))).mono ?_;rintro e ei ⟨rfl,ch⟩;have ds:Hid (af w0 ei):=ae ce.out ch;have dv:=Lib.hid (fc.out.below ch);obtain⟨U,X,Y⟩:=u.out _ ds.out;obtain⟨a2,a3,bi,bo⟩:=eI dv.out;clear ch)
  |(go_at_call 39;refine(f9.out _).mono ?_;rintro e b5 ⟨rfl,ci⟩;have fn:Hid (af w0 b5):=ae ds.out ci;have dx:=Lib.hid (dv.out.below ci);clear ci)
  |((with_reducible show wpList _ _ _ (⟨none,Op.store 71 _ (.tmp 47),_,_,_,_⟩::_) _ _);refine bG rfl 71 _ _ rfl 71 J.heap.size 0 (aS n false C Q) (aS n true C s).toList rfl rfl dx.out pn (by show 4<=4;omega) (by intro v G;simp only[List.mem_cons,List.not_mem_nil,or_false]at G;rcases G with rfl|rfl|rfl|rfl<;>rfl) ?_;rw[ky];have ck:Hid (af w0 (b5.setRow J.heap.size (aS n true C s))):=below_setRow fn.out fd.out _;have dy:Hid (aa (b5.setRow J.heap.size (aS n true C s)) J.heap.size (aS n true C s) 71):=dx.out.set _;obtain⟨U,X,Y⟩:=u.out _ ck.out;obtain⟨a2,a3,bi,bo⟩:=eI dy.out)
  |(go_at_call 40;refine(er.out _ (l.out.trans (ck.out.mono l.out.size))).mono ?_;rintro e ek ⟨rfl,co⟩;have cp:Hid (af w0 ek):=ae ck.out co;have dz:=Lib.hid (dy.out.below co);obtain⟨U,X,Y⟩:=u.out _ cp.out;obtain⟨a2,a3,bi,bo⟩:=eI dz.out;clear co)
  |(go_at_call 41;refine(ez.out _ (l.out.trans (cp.out.mono l.out.size))).mono ?_;rintro e z ⟨rfl,cq⟩;have K:Hid (af w0 z):=ae cp.out cq;have fo:=Lib.hid (dz.out.below cq);obtain⟨U,X,Y⟩:=u.out _ K.out;clear cq;rcases S with _|_))
 all_goals(try(go_ret3;exact dC.err (es.out oS) (l.out.trans (K.out.mono l.out.size))))
 all_goals
  clear U X Y;have dE:Hid (af z z.drew):=aj (Below.refl _ _);have bx:Hid (∀W,af z W->(W.cell? ⟨H,0,none⟩=some (.int .i64 (n:Int))/\W.cell? ⟨H,1,none⟩=some (.int .i64 (n:Int))/\W.cell? ⟨H,2,none⟩=some (.slice A N f))/\_):=λW am=>⟨u.out W (K.out.trans (am.mono K.out.size)),eI (fo.out.below am)⟩;refine yO (af z) [1,2,5,6,0,3,4,7,0,8,9,10,11,12,13,14] dE.out ?_
  repeat refine zO bx.out ?_
  refine zZ ?_;refine(eA.out _).mono ?_;rintro e fr ⟨v10,rfl,d3,d4⟩;have cv:Hid (af z fr):=ae dE.out d4;clear d4;refine⟨_,rfl,cv.out,jO ?_⟩;refine zZ ?_;refine(e0.out _ _ (l.out.trans ((K.out.trans (cv.out.mono K.out.size)).mono l.out.size)) d3.out).mono ?_;rintro e fv ⟨db,gp,rfl,d5,d6⟩;have d7:Hid (af z fv):=ae cv.out d6;clear d6;refine⟨_,rfl,d7.out,jO ?_⟩;refine zZ ?_;refine(e9.out _ _ _ _ d5.out).mono ?_;rintro e ap ⟨rfl,d8⟩;have bz:Hid (af z ap):=ae d7.out d8;have d0:Hid (Below w.heap.size w ap):=l.out.trans ((K.out.trans (bz.out.mono K.out.size)).mono l.out.size);clear d8 d5 d3;refine⟨_,rfl,bz.out,jO ?_⟩
  repeat refine zO bx.out ?_
  refine ag ?_;rcases t with _|⟨a,D⟩
  ·have E:=Lib.hid (et.out oS oS);simp only[pmF];go_wp2;go_ret3
   exact dC.err E.out d0.out
  ·obtain⟨fx,fz,f0,f1⟩:=ey.out (a,D) rfl;have a4:=Lib.hid (ew.out oS (a,D) rfl);simp only[pmF]at a4 fx fz f0 f1⊢;obtain⟨a2,a3,bi,bo⟩:=(bx.out _ bz.out).2;go_wp2;clear a2 a3 bi bo;obtain⟨c,a8⟩:∃x,x=ap.alloc (bE (a:Int) true):=⟨_,rfl⟩;have y:Hid (Below w.heap.size w c):=by show Below _ _ _;rw[a8];exact ah d0.out _
   have d1:Hid (aa c ap.heap.size #[.int .i64 (a:Int),.bool true] 60):=by show aa _ _ _ _;rw[a8];exact aa.new _ _ _ _ rfl
   have d2:Hid (af z c):=by show af _ _;rw[a8];exact ah bz.out _
   rw[<-a8];clear a8;have M:Hid (af c c.drew):=aj (Below.refl _ _);have b:Hid (∀W,af c W->(W.cell? ⟨H,0,none⟩=some (.int .i64 (n:Int))/\W.cell? ⟨H,1,none⟩=some (.int .i64 (n:Int))/\W.cell? ⟨H,2,none⟩=some (.slice A N f))/\W.cell? ⟨ap.heap.size,0,none⟩=some (.int .i64 (a:Int))/\W.cell? ⟨ap.heap.size,1,none⟩=some (.bool true)):=λW am=>⟨(bx.out W (d2.out.trans (am.mono d2.out.size))).1,(d1.out.below am).cell 0 _ rfl,(d1.out.below am).cell 1 _ rfl⟩;by_cases g:dN (a:Int) true=true;rotate_left
   ·rw[Bool.not_eq_true]at g;have ac:Hid (∀V,Calls Tryz.prog 29 #[aP (a:Int) true] V λe w'=>e= .returned (.bool false)/\Below V.heap.size V w'):=λV=>by have h:=bs.out V (a:Int);rw[g]at h;exact h
    have E:Hid (cu n n d=([],0,21)):=by show _=_;rw[a4.out,if_neg (by rw[g];simp)]
    refine yO (af c) [1,0,2,0,3,4,5,7,8,0,6,0,9,10,11,12,13,0,14,0,15,16] M.out ?_
    repeat refine zO b.out ?_
    refine zZ ?_;refine(ac.out _).mono ?_;rintro e ab ⟨rfl,r⟩;have i:Hid (af c ab):=ae M.out r;clear r;refine⟨_,rfl,i.out,jO ?_⟩
    repeat refine zO b.out ?_
    repeat
     first
     |refine gu rfl ?_
     |refine fD rfl i.out ?_
     simp only[yQ,yU,yX,yY]
    repeat refine zO b.out ?_
    repeat
     first
     |refine gu rfl ?_
     |refine fD rfl i.out ?_
     simp only[yQ,yU,yX,yY]
    repeat refine zO b.out ?_
    refine ag ?_;go_wp2;go_ret3
    exact dC.err E.out (y.out.trans (i.out.mono y.out.size))
   by_cases a9:ai a true=n;rotate_left
   ·skip
    have ac:Hid (∀V,Calls Tryz.prog 29 #[aP (a:Int) true] V λe w'=>e= .returned (.bool true)/\Below V.heap.size V w'):=λV=>by have h:=bs.out V (a:Int);rw[g]at h;exact h
    have bd:Hid (∀V,Calls Tryz.prog 36 #[aP (a:Int) true] V λe w'=>e= .returned (.int .i64 ((ai a true:Nat):Int))/\Below V.heap.size V w'):=λV=>by have h:=b7.out V a g;exact h
    have gq:(((ai a true:Nat):Int)!=(n:Int))=true:=by rw[bne_iff_ne];omega
    have E:Hid (cu n n d=([],0,21)):=by show _=_;rw[a4.out,if_neg (by rw[show(ai a true==n)=false from beq_eq_false_iff_ne.2 a9];simp)]
    refine yO (af c) [1,0,2,0,3,4,5,7,8,0,6,0,9,10,11,12,13,0,14,0,15,16] M.out ?_
    repeat refine zO b.out ?_
    refine zZ ?_;refine(ac.out _).mono ?_;rintro e ab ⟨rfl,r⟩;have i:Hid (af c ab):=ae M.out r;clear r;refine⟨_,rfl,i.out,jO ?_⟩
    repeat refine zO b.out ?_
    repeat refine zX b.out ?_
    refine zZ ?_;refine(bd.out _).mono ?_;rintro e bb ⟨rfl,O⟩;have F:Hid (af c bb):=ae i.out O;clear O;refine⟨_,rfl,F.out,jO ?_⟩
    repeat refine zX b.out ?_
    repeat refine zO b.out ?_
    repeat
     first
     |refine gu rfl ?_
     |refine fD rfl F.out ?_
     simp only[yQ,yU,yX,yY]
    repeat refine zO b.out ?_
    refine ag ?_;go_wp2;go_ret3
    exact dC.err E.out (y.out.trans (F.out.mono y.out.size))
   by_cases gs:D<ay a true;rotate_left
   ·skip
    have ac:Hid (∀V,Calls Tryz.prog 29 #[aP (a:Int) true] V λe w'=>e= .returned (.bool true)/\Below V.heap.size V w'):=λV=>by have h:=bs.out V (a:Int);rw[g]at h;exact h
    have bd:Hid (∀V,Calls Tryz.prog 36 #[aP (a:Int) true] V λe w'=>e= .returned (.int .i64 ((n:Nat):Int))/\Below V.heap.size V w'):=λV=>by have h:=b7.out V a g;rw[a9]at h;exact h
    have cx:=Lib.hid (λV=>da.out V a g);have f2:((ay a true:Nat):Int)<=(D:Int):=oO;have E:Hid (cu n n d=([],0,21)):=by show _=_;rw[a4.out,if_neg (by rw[show decide (D<ay a true)=false from decide_eq_false oO];simp)]
    refine yO (af c) [1,0,2,0,3,4,5,7,8,0,6,0,9,10,11,12,13,0,14,0,15,16] M.out ?_
    repeat refine zO b.out ?_
    refine zZ ?_;refine(ac.out _).mono ?_;rintro e ab ⟨rfl,r⟩;have i:Hid (af c ab):=ae M.out r;clear r;refine⟨_,rfl,i.out,jO ?_⟩
    repeat refine zO b.out ?_
    repeat refine zX b.out ?_
    refine zZ ?_;refine(bd.out _).mono ?_;rintro e bb ⟨rfl,O⟩;have F:Hid (af c bb):=ae i.out O;clear O;refine⟨_,rfl,F.out,jO ?_⟩
    repeat refine zX b.out ?_
    repeat refine zO b.out ?_
    repeat refine zX b.out ?_
    refine zZ ?_;refine(cx.out _).mono ?_;rintro e cs ⟨rfl,be⟩;have ad:Hid (af c cs):=ae F.out be;clear be;refine⟨_,rfl,ad.out,jO ?_⟩
    repeat refine zX b.out ?_
    repeat refine zO b.out ?_
    refine ag ?_;go_wp2;go_ret3
    exact dC.err E.out (y.out.trans (ad.out.mono y.out.size))
   ·skip
    have ac:Hid (∀V,Calls Tryz.prog 29 #[aP (a:Int) true] V λe w'=>e= .returned (.bool true)/\Below V.heap.size V w'):=λV=>by have h:=bs.out V (a:Int);rw[g]at h;exact h
    have bd:Hid (∀V,Calls Tryz.prog 36 #[aP (a:Int) true] V λe w'=>e= .returned (.int .i64 ((n:Nat):Int))/\Below V.heap.size V w'):=λV=>by have h:=b7.out V a g;rw[a9]at h;exact h
    have cx:=Lib.hid (λV=>da.out V a g);have f2:¬((ay a true:Nat):Int)<=(D:Int):=oO;have E:Hid (cu n n d=gM n a true D d):=by show _=_;rw[a4.out,if_pos (by rw[g,show(ai a true==n)=true from beq_iff_eq.2 a9,show decide (D<ay a true)=true from decide_eq_true oO];rfl)]
    have f3:=Lib.hid (λV o=>fb.out V a D o g a9 oO oO);refine yO (af c) [1,0,2,0,3,4,5,7,8,0,6,0,9,10,11,12,13,0,14,0,15,16] M.out ?_
    repeat refine zO b.out ?_
    refine zZ ?_;refine(ac.out _).mono ?_;rintro e ab ⟨rfl,r⟩;have i:Hid (af c ab):=ae M.out r;clear r;refine⟨_,rfl,i.out,jO ?_⟩
    repeat refine zO b.out ?_
    repeat refine zX b.out ?_
    refine zZ ?_;refine(bd.out _).mono ?_;rintro e bb ⟨rfl,O⟩;have F:Hid (af c bb):=ae i.out O;clear O;refine⟨_,rfl,F.out,jO ?_⟩
    repeat refine zX b.out ?_
    repeat refine zO b.out ?_
    repeat refine zX b.out ?_
    refine zZ ?_;refine(cx.out _).mono ?_;rintro e cs ⟨rfl,be⟩;have ad:Hid (af c cs):=ae F.out be;clear be;refine⟨_,rfl,ad.out,jO ?_⟩
    repeat refine zX b.out ?_
    repeat refine zO b.out ?_
    refine ag ?_;obtain⟨⟨U,X,Y⟩,a2,a3⟩:=b.out _ ad.out;go_wp2_with(go_at_call 45;refine(f3.out _ (y.out.trans (ad.out.mono y.out.size))).mono ?_;rintro e f4 ⟨f5,f6,f7,rfl,d9,ea⟩;have gb:=Lib.hid d9;have gc:Hid (af c f4):=ae ad.out ea;clear ea d9)
    go_ret3
    rw[E.out];exact⟨f5,f6,f7,rfl,gb.out,y.out.trans (gc.out.mono y.out.size)⟩
theorem F4 (n:Nat) (A:Option Addr) (N f:Nat) (d:List Bool) (w:World) (ap:N=n* n) (cv:N<=4194304) (G:dW n n N=true) (Y:SR vB false w A N f d) (Z:cK n true=true) (bv:cK n false=false) (bx:gQ n ((n-1)/2) true d=true):Calls Tryz.prog 14 #[cX n n A N f] w (dC w (cu n n d)):=by
 have cp:jE n d=some true:=by
  unfold jE;rw[bv,Bool.false_and,if_neg oD,Z,bx,Bool.true_and,if_pos rfl]
 have bf:cu n n d=jx n d true:=by
  unfold cu;rw[<-Y.hn,G,if_neg oD,if_neg (λh=>by rcases h with h|⟨h,d6⟩;exact h rfl;rw[Int.toNat_natCast]at h d6;rw[Z]at h;cases h),Int.toNat_natCast,cp]
 have hg:15<=n/\n<=161:=by have h:=jA Z;omega
 have ed:Hid (∀V,Calls Tryz.prog 37 #[cX n n A N f] V λe w'=>e= .returned (.bool true)/\Below V.heap.size V w'):=λV=>by rw[<-G];exact gO _ _ A N f V oO
 have ef:Hid (∀V,Calls Tryz.prog 38 #[.int .i64 n,.bool true] V λe w'=>e= .returned (.bool true)/\Below V.heap.size V w'):=λV=>by have h:=cF n true V oO;rw[Z]at h;exact h
 have eh:Hid (∀V,Calls Tryz.prog 38 #[.int .i64 n,.bool false] V λe w'=>e= .returned (.bool false)/\Below V.heap.size V w'):=λV=>by have h:=cF n false V oO;rw[bv]at h;exact h
 obtain⟨C,t⟩:∃C,C=(n-1)/2:=⟨_,rfl⟩;obtain⟨av,cx⟩:∃x,x=aM false:=⟨_,rfl⟩;obtain⟨m,S⟩:∃x,x=aM true:=⟨_,rfl⟩;have f2:Hid (∀V,Calls Tryz.prog 39 #[.int .i64 n,.bool false] V λe w'=>e= .returned (bO n false C av)/\Below V.heap.size V w'):=λV=>by rw[t,cx];exact dK n false V oO oO
 have f3:Hid (∀V,Calls Tryz.prog 39 #[.int .i64 n,.bool true] V λe w'=>e= .returned (bO n true C m)/\Below V.heap.size V w'):=λV=>by rw[t,S];exact dK n true V oO oO
 have ei:Hid (∀V,af w V->Calls Tryz.prog 40 #[bO n true C m,cX n n A N f] V λe w'=>e= .returned (.bool true)/\Below V.heap.size V w'):=λV u=>by have h:=lE n C m true n A N f d V S oO oO oO ap (Y.below u);rw[t,bx,<-t]at h;exact h
 have c2:cK n true=true:=Z;obtain⟨c3,c4,c5,f8,f9⟩:=jA c2;rw[<-t]at c3 c4 c5;have gg:aM true<=7:=by decide
 obtain⟨P,a3⟩:∃P,P=nG n C true d:=⟨_,rfl⟩;obtain⟨Q,a4⟩:∃Q,Q=cE n d (cn C true):=⟨_,rfl⟩;obtain⟨o,a5⟩:∃o,o=kn true Q:=⟨_,rfl⟩;have ek:Hid (P=false->cu n n d=([],0,18)):=by
  show _->_;intro h;rw[bf];unfold jx;rw[<-t,<-a3,h,if_pos rfl]
 have el:Hid (P=true->o=none->cu n n d=([],0,21)):=by
  show _->_->_;intro h j;rw[bf];unfold jx;rw[<-t,<-a3,h,if_neg oD,<-a4,<-a5,j]
 have em:Hid (P=true->∀q,o=some q->cu n n d=if(dN (q.1:Int) true&&(ai q.1 true==n)&&decide (q.2<ay q.1 true))=true then gM n q.1 true q.2 d else([],0,21)):=by
  show _->∀q,_->_;intro h q j;rw[bf];unfold jx;rw[<-t,<-a3,h,if_neg oD,<-a4,<-a5,j]
 have en:Hid (gH true Q=pmF o):=by
  show _=_;rw[a5];exact sM (by rw[a4];unfold cE;rw[List.length_map,eS];rfl)
 have eq:Hid (∀q,o=some q->1<=q.1/\q.1<=4096/\1<=q.2/\q.2<=4096):=by
  show∀q,_->_;intro q h;rw[a5]at h;exact qP h
 have er:Hid (∀V,af w V->Calls Tryz.prog 41 #[bO n true C m,cX n n A N f] V λe w'=>e= .returned (.bool P)/\Below V.heap.size V w'):=λV u=>by rw[a3];exact oy n C m true n A N f d V S (by rw[S];omega) (by rw[S];omega) oO ap cv (Y.below u)
 have es:Hid (∀V,Calls Tryz.prog 43 #[bO n true C m] V λe w'=>∃v,e= .returned v/\Hid (SP w' v (cn C true))/\Below V.heap.size V w'):=λV=>by
  rw[S];exact(j5 n C true V oO oO).mono λe w' ⟨v,a0,j,bz⟩=>⟨v,a0,j.1,bz⟩
 have et:Hid (∀V v,af w V->SP V v (cn C true)->Calls Tryz.prog 42 #[cX n n A N f,v] V λe w'=>∃db k,e= .returned (.slice (some ⟨db,0,none⟩) k k)/\Hid (SR vB false w' (some ⟨db,0,none⟩) k k Q)/\Below V.heap.size V w'):=λV v u G=>
  (mF n n A N f d _ v V oO cv (Y.below u) G (by rw[eS];decide) (λp d7=>by
   have:=kj oO d7
   exact⟨by omega,by omega,by rw[ap];exact iF oO oO⟩)).mono λe w' ⟨db,k,a0,j,bz,d8⟩=>⟨db,k,a0,by rw[a4];exact bz.sr (by rw[j];unfold cE;rw[List.length_map]) (by rw[j,eS];decide),d8⟩
 have ew:Hid (∀V B k a1,SR vB false V B k a1 Q->Calls Tryz.prog 25 #[.slice B k a1,.bool true] V (FQ V (pmF o).1 (pmF o).2.1 (pmF o).2.2)):=λV B k a1 h=>by rw[<-en.out];exact nI true Q B k a1 V h
 have bi:Hid (∀V (L:Int),Calls Tryz.prog 29 #[aP L true] V λe w'=>e= .returned (.bool (dN L true))/\Below V.heap.size V w'):=λV L=>eV L true V;have b4:Hid (∀V (L:Nat),dN (L:Int) true=true->Calls Tryz.prog 36 #[aP L true] V λe w'=>e= .returned (.int .i64 ((ai L true:Nat):Int))/\Below V.heap.size V w'):=λV L h=>jX L true V (by obtain⟨k,e,_,j,_⟩:=fL h;omega);have c6:Hid (∀V (L:Nat),dN (L:Int) true=true->Calls Tryz.prog 44 #[aP L true] V λe w'=>e= .returned (.int .i64 ((ay L true:Nat):Int))/\Below V.heap.size V w'):=λV L h=>j7 L true V (by obtain⟨k,e,_,j,_⟩:=fL h;omega);have ex:Hid (∀V (L k:Nat),af w V->dN (L:Int) true=true->ai L true=n->1<=k->k<ay L true->Calls Tryz.prog 45 #[aP L true,cX n n A N f,.int .i64 k] V (dC V (gM n L true k d))):=λV L k u g hs a0 j=>by
  obtain⟨a1,e,f6,f7,d9⟩:=fL g;exact qd L true k n n A N f d V oO oO (λh=>by have:=d9 h;omega) hs.symm a0 j ap (Y.below u)
 clear bf cp G Y Z bv ap t cx S c2 a3 a4 a5 c3 c4 c5 bx;have y:=iG w n n A N f;obtain⟨w0,bo⟩:∃w0,w0=w.alloc (pP n n A N f):=⟨_,rfl⟩;have r:Hid (Below w.heap.size w w0):=by show Below _ _ _;rw[bo];exact ax _ _
 obtain⟨H,b5⟩:∃H,H=w.heap.size:=⟨_,rfl⟩;rw[<-bo,<-b5]at y;go_enter Tryz.func14,Tryz.ntmps14;go_wp2_with(go_at_call 37;(rw[<-bo]);refine(ed.out _).mono ?_;rintro e cq ⟨rfl,c7⟩;have c8:Hid (af w0 cq):=c7;clear c7)
 simp only[<-b5];clear bo b5;have b6:Hid (af w0 cq.drew):=aj c8.out;refine yO (af w0) [1,2,4,5,0,3,6,0,7,8] b6.out ?_
 repeat refine zO y.out ?_
 refine zZ ?_;refine(ef.out _).mono ?_;rintro e ea ⟨rfl,c9⟩;have b7:Hid (af w0 ea):=ae b6.out c9;clear c9;refine⟨_,rfl,b7.out,jO ?_⟩;refine zZ ?_;refine(eh.out _).mono ?_;rintro e cs ⟨rfl,da⟩;have bq:Hid (af w0 cs):=ae b7.out da;clear da;refine⟨_,rfl,bq.out,jO ?_⟩
 repeat refine zO y.out ?_
 refine ag ?_;obtain⟨ab,ac,ad⟩:=y.out cs bq.out;clear c8 b7 b6
 go_wp2_with(first
  |(go_at_call 39;(with_reducible show Calls _ _ #[_,.bool false] _ _);refine(f2.out _).mono ?_;rintro e J ⟨rfl,b8⟩;have dd:Hid (af w0 (J.alloc (.cells (aS n false C av) 71))):=ah (ae bq.out b8) _;have ey:Hid (aa (J.alloc (.cells (aS n false C av) 71)) J.heap.size (aS n false C av) 71):=aa.new _ _ _ _ rfl;have ez:Hid (w0.heap.size<=J.heap.size):=Nat.le_trans bq.out.size b8.size;obtain⟨ab,ac,ad⟩:=y.out _ dd.out;clear b8)
  |(go_at_call 39;refine(f3.out _).mono ?_;rintro e b1 ⟨rfl,b9⟩;have eA:Hid (af w0 b1):=ae dd.out b9;have de:=Lib.hid (ey.out.below b9);clear b9)
  |((with_reducible show wpList _ _ _ (⟨none,Op.store 71 _ (.tmp 47),_,_,_,_⟩::_) _ _);refine bG rfl 71 _ _ rfl 71 J.heap.size 0 (aS n false C av) (aS n true C m).toList rfl rfl de.out pn (by show 4<=4;omega) (by intro v G;simp only[List.mem_cons,List.not_mem_nil,or_false]at G;rcases G with rfl|rfl|rfl|rfl<;>rfl) ?_;rw[ky];have ca:Hid (af w0 (b1.setRow J.heap.size (aS n true C m))):=below_setRow eA.out ez.out _;have dl:Hid (aa (b1.setRow J.heap.size (aS n true C m)) J.heap.size (aS n true C m) 71):=de.out.set _;obtain⟨ab,ac,ad⟩:=y.out _ ca.out;obtain⟨bd,be,b2,b3⟩:=eI dl.out)
  |(go_at_call 40;refine(ei.out _ (r.out.trans (ca.out.mono r.out.size))).mono ?_;rintro e ec ⟨rfl,cb⟩;have ce:Hid (af w0 ec):=ae ca.out cb;have dn:=Lib.hid (dl.out.below cb);obtain⟨ab,ac,ad⟩:=y.out _ ce.out;obtain⟨bd,be,b2,b3⟩:=eI dn.out;clear cb)
  |(go_at_call 41;refine(er.out _ (r.out.trans (ce.out.mono r.out.size))).mono ?_;rintro e z ⟨rfl,ch⟩;have K:Hid (af w0 z):=ae ce.out ch;have e0:=Lib.hid (dn.out.below ch);obtain⟨ab,ac,ad⟩:=y.out _ K.out;clear ch;rcases P with _|_))
 all_goals(try(go_ret3;exact dC.err (ek.out oS) (r.out.trans (K.out.mono r.out.size))))
 all_goals
  clear ab ac ad;have ds:Hid (af z z.drew):=aj (Below.refl _ _);have bs:Hid (∀W,af z W->(W.cell? ⟨H,0,none⟩=some (.int .i64 (n:Int))/\W.cell? ⟨H,1,none⟩=some (.int .i64 (n:Int))/\W.cell? ⟨H,2,none⟩=some (.slice A N f))/\_):=λW al=>⟨y.out W (K.out.trans (al.mono K.out.size)),eI (e0.out.below al)⟩;refine yO (af z) [1,2,5,6,0,3,4,7,0,8,9,10,11,12,13,14] ds.out ?_
  repeat refine zO bs.out ?_
  refine zZ ?_;refine(es.out _).mono ?_;rintro e e9 ⟨v10,rfl,dz,dE⟩;have ck:Hid (af z e9):=ae ds.out dE;clear dE;refine⟨_,rfl,ck.out,jO ?_⟩;refine zZ ?_;refine(et.out _ _ (r.out.trans ((K.out.trans (ck.out.mono K.out.size)).mono r.out.size)) dz.out).mono ?_;rintro e fb ⟨db,gb,rfl,d0,d1⟩;have d2:Hid (af z fb):=ae ck.out d1;clear d1;refine⟨_,rfl,d2.out,jO ?_⟩;refine zZ ?_;refine(ew.out _ _ _ _ d0.out).mono ?_;rintro e am ⟨rfl,d3⟩;have bt:Hid (af z am):=ae d2.out d3;have dv:Hid (Below w.heap.size w am):=r.out.trans ((K.out.trans (bt.out.mono K.out.size)).mono r.out.size);clear d3 d0 dz;refine⟨_,rfl,bt.out,jO ?_⟩
  repeat refine zO bs.out ?_
  refine ag ?_;rcases o with _|⟨a,D⟩
  ·have E:=Lib.hid (el.out oS oS);simp only[pmF];go_wp2;go_ret3
   exact dC.err E.out dv.out
  ·obtain⟨fc,fd,fn,fo⟩:=eq.out (a,D) rfl;have a2:=Lib.hid (em.out oS (a,D) rfl);simp only[pmF]at a2 fc fd fn fo⊢;obtain⟨bd,be,b2,b3⟩:=(bs.out _ bt.out).2;go_wp2;clear bd be b2 b3;obtain⟨c,a6⟩:∃x,x=am.alloc (bE (a:Int) true):=⟨_,rfl⟩;have s:Hid (Below w.heap.size w c):=by show Below _ _ _;rw[a6];exact ah dv.out _
   have dx:Hid (aa c am.heap.size #[.int .i64 (a:Int),.bool true] 60):=by show aa _ _ _ _;rw[a6];exact aa.new _ _ _ _ rfl
   have dy:Hid (af z c):=by show af _ _;rw[a6];exact ah bt.out _
   rw[<-a6];clear a6;have M:Hid (af c c.drew):=aj (Below.refl _ _);have b:Hid (∀W,af c W->(W.cell? ⟨H,0,none⟩=some (.int .i64 (n:Int))/\W.cell? ⟨H,1,none⟩=some (.int .i64 (n:Int))/\W.cell? ⟨H,2,none⟩=some (.slice A N f))/\W.cell? ⟨am.heap.size,0,none⟩=some (.int .i64 (a:Int))/\W.cell? ⟨am.heap.size,1,none⟩=some (.bool true)):=λW al=>⟨(bs.out W (dy.out.trans (al.mono dy.out.size))).1,(dx.out.below al).cell 0 _ rfl,(dx.out.below al).cell 1 _ rfl⟩;by_cases g:dN (a:Int) true=true;rotate_left
   ·rw[Bool.not_eq_true]at g;have U:Hid (∀V,Calls Tryz.prog 29 #[aP (a:Int) true] V λe w'=>e= .returned (.bool false)/\Below V.heap.size V w'):=λV=>by have h:=bi.out V (a:Int);rw[g]at h;exact h
    have E:Hid (cu n n d=([],0,21)):=by show _=_;rw[a2.out,if_neg (by rw[g];simp)]
    refine yO (af c) [1,0,2,0,3,4,5,7,8,0,6,0,9,10,11,12,13,0,14,0,15,16] M.out ?_
    repeat refine zO b.out ?_
    refine zZ ?_;refine(U.out _).mono ?_;rintro e T ⟨rfl,l⟩;have i:Hid (af c T):=ae M.out l;clear l;refine⟨_,rfl,i.out,jO ?_⟩
    repeat refine zO b.out ?_
    repeat
     first
     |refine gu rfl ?_
     |refine fD rfl i.out ?_
     simp only[yQ,yU,yX,yY]
    repeat refine zO b.out ?_
    repeat
     first
     |refine gu rfl ?_
     |refine fD rfl i.out ?_
     simp only[yQ,yU,yX,yY]
    repeat refine zO b.out ?_
    refine ag ?_;go_wp2;go_ret3
    exact dC.err E.out (s.out.trans (i.out.mono s.out.size))
   by_cases a7:ai a true=n;rotate_left
   ·skip
    have U:Hid (∀V,Calls Tryz.prog 29 #[aP (a:Int) true] V λe w'=>e= .returned (.bool true)/\Below V.heap.size V w'):=λV=>by have h:=bi.out V (a:Int);rw[g]at h;exact h
    have a9:Hid (∀V,Calls Tryz.prog 36 #[aP (a:Int) true] V λe w'=>e= .returned (.int .i64 ((ai a true:Nat):Int))/\Below V.heap.size V w'):=λV=>by have h:=b4.out V a g;exact h
    have gc:(((ai a true:Nat):Int)!=(n:Int))=true:=by rw[bne_iff_ne];omega
    have E:Hid (cu n n d=([],0,21)):=by show _=_;rw[a2.out,if_neg (by rw[show(ai a true==n)=false from beq_eq_false_iff_ne.2 a7];simp)]
    refine yO (af c) [1,0,2,0,3,4,5,7,8,0,6,0,9,10,11,12,13,0,14,0,15,16] M.out ?_
    repeat refine zO b.out ?_
    refine zZ ?_;refine(U.out _).mono ?_;rintro e T ⟨rfl,l⟩;have i:Hid (af c T):=ae M.out l;clear l;refine⟨_,rfl,i.out,jO ?_⟩
    repeat refine zO b.out ?_
    repeat refine zX b.out ?_
    refine zZ ?_;refine(a9.out _).mono ?_;rintro e a8 ⟨rfl,O⟩;have F:Hid (af c a8):=ae i.out O;clear O;refine⟨_,rfl,F.out,jO ?_⟩
    repeat refine zX b.out ?_
    repeat refine zO b.out ?_
    repeat
     first
     |refine gu rfl ?_
     |refine fD rfl F.out ?_
     simp only[yQ,yU,yX,yY]
    repeat refine zO b.out ?_
    refine ag ?_;go_wp2;go_ret3
    exact dC.err E.out (s.out.trans (F.out.mono s.out.size))
   by_cases ge:D<ay a true;rotate_left
   ·skip
    have U:Hid (∀V,Calls Tryz.prog 29 #[aP (a:Int) true] V λe w'=>e= .returned (.bool true)/\Below V.heap.size V w'):=λV=>by have h:=bi.out V (a:Int);rw[g]at h;exact h
    have a9:Hid (∀V,Calls Tryz.prog 36 #[aP (a:Int) true] V λe w'=>e= .returned (.int .i64 ((n:Nat):Int))/\Below V.heap.size V w'):=λV=>by have h:=b4.out V a g;rw[a7]at h;exact h
    have co:=Lib.hid (λV=>c6.out V a g);have fr:((ay a true:Nat):Int)<=(D:Int):=oO;have E:Hid (cu n n d=([],0,21)):=by show _=_;rw[a2.out,if_neg (by rw[show decide (D<ay a true)=false from decide_eq_false oO];simp)]
    refine yO (af c) [1,0,2,0,3,4,5,7,8,0,6,0,9,10,11,12,13,0,14,0,15,16] M.out ?_
    repeat refine zO b.out ?_
    refine zZ ?_;refine(U.out _).mono ?_;rintro e T ⟨rfl,l⟩;have i:Hid (af c T):=ae M.out l;clear l;refine⟨_,rfl,i.out,jO ?_⟩
    repeat refine zO b.out ?_
    repeat refine zX b.out ?_
    refine zZ ?_;refine(a9.out _).mono ?_;rintro e a8 ⟨rfl,O⟩;have F:Hid (af c a8):=ae i.out O;clear O;refine⟨_,rfl,F.out,jO ?_⟩
    repeat refine zX b.out ?_
    repeat refine zO b.out ?_
    repeat refine zX b.out ?_
    refine zZ ?_;refine(co.out _).mono ?_;rintro e ci ⟨rfl,bb⟩;have X:Hid (af c ci):=ae F.out bb;clear bb;refine⟨_,rfl,X.out,jO ?_⟩
    repeat refine zX b.out ?_
    repeat refine zO b.out ?_
    refine ag ?_;go_wp2;go_ret3
    exact dC.err E.out (s.out.trans (X.out.mono s.out.size))
   ·skip
    have U:Hid (∀V,Calls Tryz.prog 29 #[aP (a:Int) true] V λe w'=>e= .returned (.bool true)/\Below V.heap.size V w'):=λV=>by have h:=bi.out V (a:Int);rw[g]at h;exact h
    have a9:Hid (∀V,Calls Tryz.prog 36 #[aP (a:Int) true] V λe w'=>e= .returned (.int .i64 ((n:Nat):Int))/\Below V.heap.size V w'):=λV=>by have h:=b4.out V a g;rw[a7]at h;exact h
    have co:=Lib.hid (λV=>c6.out V a g);have fr:¬((ay a true:Nat):Int)<=(D:Int):=oO;have E:Hid (cu n n d=gM n a true D d):=by show _=_;rw[a2.out,if_pos (by rw[g,show(ai a true==n)=true from beq_iff_eq.2 a7,show decide (D<ay a true)=true from decide_eq_true oO];rfl)]
    have fv:=Lib.hid (λV u=>ex.out V a D u g a7 oO oO);refine yO (af c) [1,0,2,0,3,4,5,7,8,0,6,0,9,10,11,12,13,0,14,0,15,16] M.out ?_
    repeat refine zO b.out ?_
    refine zZ ?_;refine(U.out _).mono ?_;rintro e T ⟨rfl,l⟩;have i:Hid (af c T):=ae M.out l;clear l;refine⟨_,rfl,i.out,jO ?_⟩
    repeat refine zO b.out ?_
    repeat refine zX b.out ?_
    refine zZ ?_;refine(a9.out _).mono ?_;rintro e a8 ⟨rfl,O⟩;have F:Hid (af c a8):=ae i.out O;clear O;refine⟨_,rfl,F.out,jO ?_⟩
    repeat refine zX b.out ?_
    repeat refine zO b.out ?_
    repeat refine zX b.out ?_
    refine zZ ?_;refine(co.out _).mono ?_;rintro e ci ⟨rfl,bb⟩;have X:Hid (af c ci):=ae F.out bb;clear bb;refine⟨_,rfl,X.out,jO ?_⟩
    repeat refine zX b.out ?_
    repeat refine zO b.out ?_
    refine ag ?_;obtain⟨⟨ab,ac,ad⟩,bd,be⟩:=b.out _ X.out;go_wp2_with(go_at_call 45;refine(fv.out _ (s.out.trans (X.out.mono s.out.size))).mono ?_;rintro e fx ⟨fz,f0,f1,rfl,d4,d5⟩;have f4:=Lib.hid d4;have f5:Hid (af c fx):=ae X.out d5;clear d5 d4)
    go_ret3
    rw[E.out];exact⟨fz,f0,f1,rfl,f4.out,s.out.trans (f5.out.mono s.out.size)⟩
theorem CI (W H:Int) (A:Option Addr) (N a:Nat) (d:List Bool) (w:World) (c:SR vB false w A N a d):Calls Tryz.prog 14 #[cX W H A N a] w (dC w (cu W H d)):=by
 have hn:=c.hn;have o:N<=9223372036854775807:=by have:=c.hm;have:=c.hc;unfold maxLen at*;omega
 cases b:dW W H N with
 |false=>exact G1 W H A N a d w o b hn.symm
 |true=>
  obtain⟨n,m,rfl,rfl,n1,n2,p,q,e,g⟩:=C6 b;by_cases l:n=m
  ·subst l;cases i:cK n true with
   |false=>
    cases f:cK n false with
    |false=>exact Cv n n A N a d w n2 g b hn.symm rfl i f
    |true=>
     cases j:gQ n ((n-1)/2) false d with
     |true=>exact Cf n A N a d w e g b c false i f j
     |false=>exact G7 n A N a d w e g b c i f j
   |true=>
    cases f:cK n false with
    |false=>
     cases k:gQ n ((n-1)/2) true d with
     |true=>exact F4 n A N a d w e g b c i f k
     |false=>exact GI n A N a d w e g b c i f k
    |true=>
     cases j:gQ n ((n-1)/2) false d with
     |true=>exact Cf n A N a d w e g b c true i f j
     |false=>
      cases k:gQ n ((n-1)/2) true d with
      |true=>exact FE n A N a d w e g b c i f j k
      |false=>exact FT n A N a d w e g b c i f j k
  ·exact CJ n m A N a d w n2 g b hn.symm l _ _ rfl rfl
end
end Go.Proofs.YtmnlkganmgcpbaaGreatDoor
