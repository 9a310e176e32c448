import Derived.Test.YtmnlkganmgcpbaaGreatDoorQm14
set_option maxRecDepth 100000
set_option maxHeartbeats 4000000
set_option linter.unusedVariables false
set_option linter.unusedSectionVars false
set_option linter.unusedSimpArgs false
namespace Go.Proofs.YtmnlkganmgcpbaaGreatDoor
section
open Go.RowKit
theorem j3 {i:Array Oper} {S:World->Prop} {K:Act->World->Prop} {r:List (Bool×Nat×Oper)} {k:Nat} {g:Oper} {a:Act} {W:World} {base:Nat} {A B:Option Addr} {n c m j:Nat} {xs ys:List Int} (q:W.ownsRow base 3 1 (.slice A n c) n (xs.map (Value.int .i64))) (hb:base<=W.heap.size)
 (C:Region.wanted g (yielded i a.tmps)=true) (s y:Operand) (t:g.op= .call {callee:= .builtin .append,args:=#[s,y],argTypes:=#[64,64]}) (hs:a.eval s= .slice A n c) (u:a.eval y= .slice B m j) (v:m=ys.length) (M:1<=m) (l:RD W B ys) (hl:n+m<=100000000)
 (w:∀b d f,f.ownsRow base 3 1 (.slice b (n+m) d) (n+m) ((xs++ys).map (Value.int .i64))->W.grownBy f (Value.slice A n c).ownBlock->((Value.slice b (n+m) d).ownBlock=(Value.slice A n c).ownBlock\/(Value.slice b (n+m) d).ownBlock=some W.heap.size)->S f/\bC Tryz.prog i S K r (a.put g.dst (.slice b (n+m) d)) f):
 bC Tryz.prog i S K ((true,k,g)::r) a W:=by
 obtain⟨x,z,D,E,F⟩:=info_parts bZ
 obtain⟨J,f,H,p,hg,G⟩:=pz (P:=Tryz.prog) W base 64 g.type 3 x _ Tryz.underlying64 z D E F rfl _ n xs q B m j ys v l (λhB=>by
  obtain⟨L,e,-⟩:=l oO
  rw[hB]at e;cases e) oO hb
 obtain⟨b,d,rfl⟩:=cd p;have o:=w b d f p hg G;refine gK C ?_ o.1 o.2;unfold execOp;simp only[t,resolve,invoke,builtin,Sem.run_bind,Sem.run_pure,Result.andThen_ok,List.map_toArray,List.map_cons,List.map_nil,hs,u,H]
theorem Cs (C S P par first:Nat) (data:List Nat) (m:Nat) (A:Option Addr) (bo:Nat) (w:World) (h:dF C S P par first) (bq:m=data.length) (hl:aj S data) (bs:1<=m) (ch:m+par<=S-1) (a6:RD w A (zl data)):
 Calls Tryz.prog 105 #[cf C S P par first,.slice A m bo] w (jK w (zl (fa S P par first data),0)):=by
 obtain⟨ec,ed,ew,ex,ey⟩:=info_parts bZ;have c:=Lib.hid h;obtain⟨s3,ef⟩:=h.s3;have ez:=h.p1;have Q:=gT w C S P par first
 have cb:Hid (Below w.heap.size w (w.alloc (eT C S P par first))):=(Below.refl _ _).alloc (Nat.le_refl _) _;obtain⟨al,eh⟩:∃al,S=al+1:=⟨S-1,by omega⟩;have e1:(S:Int)-1=(al:Int):=oO;obtain⟨am,el⟩:∃am,am=al-par:=⟨_,rfl⟩;have e2:(al:Int)-(par:Int)=(am:Int):=oO;have e0:m<=am:=oO;have gv:m<=4095:=oO;have gx:0<par:=oO;have g1:(0:Int)<(par:Int):=oO;have gy:par<=4095:=oO;obtain⟨T,rfl,bi,bd⟩:=a6 (by rw[ak];omega);have em:=Lib.hid a6;have ci:=Lib.hid hl;have a7:=Lib.hid bq;have e9:Hid (par<=S-1):=by show _<=_;omega
 have fb:Hid (∀W,af w W->Calls Tryz.prog 122 #[aN C S P,.slice (some T) m bo] W λe w'=>e= .returned (.bool true)/\Below W.heap.size W w'):=λW b=>yh C S P data m (some T) bo W bq hl oO ef (a6.below b);have fc:=run_make_row' (P:=Tryz.prog) 64 3 (.int .i64 0) 8 Tryz.underlying64 bZ rfl .i64 .i64 par oO oO;have fd:¬(am<m):=oO;obtain⟨G,H,J,K,L⟩:=Q.out _ (Below.refl _ _);clear h hl a6 bi bd bq ch el eh;go_enter Tryz.func105,Tryz.ntmps105
 go_wp2_with(first
  |(go_at_call 121;refine(vt C S P par first _ c.out).mono ?_;rintro e gg ⟨rfl,N⟩;have b6:=Lib.hid N;clear N G H J K L;obtain⟨G,H,J,K,L⟩:=Q.out _ b6.out)
  |(go_at_call 122;refine(fb.out _ (aa cb.out b6.out)).mono ?_;rintro e gi ⟨rfl,cs⟩;have cv:=Lib.hid (aa b6.out cs);clear cs G H J K L;obtain⟨G,H,J,K,L⟩:=Q.out _ cv.out)
  |(go_at_call 145;refine(xt C S P par first _ c.out).mono ?_;rintro e f ⟨go,rfl,cx,cy⟩;have c2:=Lib.hid cx;have Y:=Lib.hid (aa cv.out cy);clear cy cx G H J K L;obtain⟨G,H,J,K,L⟩:=Q.out _ Y.out;have c3:Hid (RD f (some T) (zl data)):=em.out.below (aa cb.out Y.out))
  |(at_builtin;refine da rfl _ _ _ rfl f.heap.size 3 ec _ Tryz.underlying64 ed ew ex ey rfl (.slice none 0 0) 0 [] rfl (World.ownsRow_nil _ _ _ _) (some T) m _ (zl data) rfl (by rw[ak];exact a7.out) c3.out oO (Nat.le_refl _) ?_;intro v4 a X hg be;rw[Nat.zero_add,List.nil_append]at X;have c4:=Lib.hid X;obtain⟨bt,bv,rfl⟩:=cd X;have Z:Hid (af f a):=(Below.refl _ _).grown hg (Nat.le_refl _) (λq hq=>by cases hq);clear X hg be G H J K L;obtain⟨G,H,J,K,L⟩:=Q.out _ (aa Y.out Z.out)))
 clear G H J K L fc e1 e2 fd e0;have a0:=fl (s:=S) (p:=P) first par
 obtain⟨en,gq,rfl,-,-,c5⟩:=aq.nat c2.out;rw[a0];have fn:=Lib.hid c5;clear c5 c2;have a0:Hid ((cU S P first par).length=par+1):=a0;have fo:Hid (aj S (cU S P first par)):=nJ c.out.vf first par
 have ga:Hid (data++(List.range par).map (λk=>aM S P 0 ((jN S P par (cU S P first par) data m).getD k 0))=fa S P par first data):=by
  have:=JF c.out.vf (first:=first) ci.out ez e9.out;unfold j9 at this;rw[<-a7.out]at this;exact this
 have bf:Hid (∀W,af a W->W.cell? ⟨w.heap.size,0,none⟩=some (.int .i64 C)/\W.cell? ⟨w.heap.size,1,none⟩=some (.int .i64 S)/\W.cell? ⟨w.heap.size,2,none⟩=some (.int .i64 P)/\W.cell? ⟨w.heap.size,3,none⟩=some (.int .i64 par)):=by
  show∀W,_;intro W b;obtain⟨n,o,t,M,-⟩:=Q.out _ (aa (aa Y.out Z.out) b);exact⟨n,o,t,M⟩
 have c6:Hid (af a (a.alloc (.cells (madeCells #[.int .i64 0] par) 3))/\ba (a.alloc (.cells (madeCells #[.int .i64 0] par) 3)) a.heap.size (jN S P par (cU S P first par) data 0)):=⟨ax _ _,ba.made _ _ _ _ rfl⟩;have d7:Hid (∀W,af a W->RD W en (zl (cU S P first par))):=λW b=>fn.out.below (aa Z.out b);have c7:Hid (∀W,af a W->RD W (some T) (zl data)):=λW b=>c3.out.below (aa Z.out b);generalize cU S P first par=g at*
 go_loopw [9] (λbx wr=>∃i:Nat,i<=m/\bx= .int .i64 i/\Hid (af a wr/\ba wr a.heap.size (jN S P par g data i))) (λbx _=>m-(intOf bx).toNat)
 case atStart=>exact⟨0,Nat.zero_le _,rfl,c6⟩
 case round=>
  obtain⟨i,gz,rfl,B⟩:=hrel;by_cases fr:i<m
  ·obtain⟨gC,e,bi,bd⟩:=c7.out wr B.out.1 (by rw[ak,<-a7.out];omega);cases e;have bz:=bd i (by rw[ak,<-a7.out];exact fr);rw[bw]at bz;have ck:Hid (data.getD i 0<S):=ci.out i;have a8:Hid (aj S (jN S P par g data i)):=pM c.out.vf _ _ _;have a1:Hid ((jN S P par g data i).length=par):=qg _ _ _ _ _ _;have fv:Hid (jN S P par g data (i+1)=kk S P par g (jN S P par g data i) (aT S P (data.getD i 0) ((jN S P par g data i).getD 0 0)) par):=rfl;have co:=(B.out.2.2 0 (by rw[a1.out];omega)).1;have c8:Hid ((jN S P par g data i).getD 0 0<S):=a8.out 0;have c9:(T.add i).block<wr.heap.size:=by rw[aI];exact bi
   have ab:=B.out.2.1;generalize data.getD i 0=d at*;generalize jN S P par g data i=R at*;generalize fw:R.getD 0 0=a9 at*;have di:Hid (∀W,af wr W->(W.cell? ⟨w.heap.size,0,none⟩=some (.int .i64 C)/\W.cell? ⟨w.heap.size,1,none⟩=some (.int .i64 S)/\W.cell? ⟨w.heap.size,2,none⟩=some (.int .i64 P))/\W.cell? (T.add i)=some (.int .i64 (d:Int))/\W.cell? ⟨a.heap.size,0,none⟩=some (.int .i64 (a9:Int))):=by
    show∀W,_;intro W b;obtain⟨n,o,t,-⟩:=bf.out _ (aa B.out.1 b);exact⟨⟨n,o,t⟩,(b.cell c9).trans bz,(b.cell ab).trans co⟩
   clear bd bi c9 bz co fw ab;go_wp2;refine yO (af wr) [1,2,3,4,5,6,7,8,9,0,10,0,11] (ai (Below.refl _ _)) ?_
   repeat refine zO di.out ?_
   refine zZ ?_;refine(wa C S P d a9 _ c.out.vf ck.out c8.out).mono ?_;rintro e b1 ⟨rfl,dl⟩;have b7:Hid (af wr b1):=aa (ai (Below.refl _ _)) dl;have cp:Hid (aT S P d a9<S):=ja c.out.vf _ _ ck.out c8.out;clear dl;generalize aT S P d a9=q at*;refine⟨_,rfl,b7.out,jO ?_⟩
   repeat refine zO di.out ?_
   refine ag ?_;have fx:Hid (af a b1/\ba b1 a.heap.size R):=⟨aa B.out.1 b7.out,B.out.2.below b7.out⟩;have fz:Hid (kk S P par g R q 0=R):=I4 _ _ _ _ _ _ a1.out;go_wp2;go_loopw [11] (λU wr=>∃k:Nat,k<=par/\U= .int .i64 k/\Hid (af a wr/\ba wr a.heap.size (kk S P par g R q k))) (λU _=>par-(intOf U).toNat)
   case atStart=>exact⟨0,Nat.zero_le _,rfl,by rw[fz.out];exact fx⟩
   case round=>
    obtain⟨k,f0,rfl,D⟩:=hrel;obtain⟨n,o,t,M⟩:=bf.out _ D.out.1;by_cases a5:k<par
    ·obtain⟨cq,rfl,d8,ds⟩:=d7.out wr D.out.1 (by rw[ak,a0.out];omega);obtain⟨r,cr⟩:∃r,r=par-1-k:=⟨_,rfl⟩;have b8:=ds r (by rw[ak,a0.out];omega);rw[bw]at b8;have dv:Hid (g.getD r 0<S):=fo.out r;have b9:IntKind.i64.wrap ((par:Int)-1)=((par-1:Nat):Int):=by rw[aE _ oO oO];omega
     obtain⟨pm,d9⟩:∃pm,pm=par-1:=⟨_,rfl⟩;rw[<-d9]at b9;have dx:IntKind.i64.wrap ((pm:Int)-(k:Int))=(r:Int):=by rw[aE _ oO oO];omega
     have gb:IntKind.i64.wrap ((par:Int)-1-(k:Int))=(r:Int):=by rw[aE _ oO oO];omega
     have gc:(par:Int)-1-(k:Int)=(r:Int):=oO;have gD:r<par+1:=oO;have gN:(r:Int)<(par:Int)+1:=oO;have g0:0<par+1:=oO;obtain⟨V,a2⟩:∃V,V=if k+1<par then R.getD (k+1) 0 else 0:=⟨_,rfl⟩
     have dy:Hid (V<S):=by show _<_;rw[a2];split<;>first|exact a8.out _|omega
     have d0:Hid ((kk S P par g R q k).set k (aM S P V (au S P q (g.getD r 0)))=kk S P par g R q (k+1)):=by
      show _=_;rw[a2,cr];exact Jj S P par g R q k a5
     have ca:=D.out.2.2 k (by rw[lA];exact a5);have ab:=D.out.2.1;have d1:(cq.add r).block<wr.heap.size:=by rw[aI];exact d8
     have cg:k+1<par->wr.cell? ⟨a.heap.size,k+1,none⟩=some (.int .i64 (V:Int)):=λap=>by
      have bb:=(D.out.2.2 (k+1) (by rw[lA];exact ap)).1;rw[Kv _ _ _ _ _ _ _ _ ap oO]at bb;rw[a2,if_pos ap];exact bb
     have ce:¬(k+1<par)->V=0:=λap=>by rw[a2,if_neg ap]
     clear a2 d9 cr gb gc;generalize g.getD r 0=y at*;generalize(kk S P par g R q k).getD k 0=u at*;have E:Hid (∀W,af wr W->(W.cell? ⟨w.heap.size,0,none⟩=some (.int .i64 C)/\W.cell? ⟨w.heap.size,1,none⟩=some (.int .i64 S)/\W.cell? ⟨w.heap.size,2,none⟩=some (.int .i64 P)/\W.cell? ⟨w.heap.size,3,none⟩=some (.int .i64 par))/\W.cell? (cq.add r)=some (.int .i64 (y:Int))/\W.cell? ⟨a.heap.size,k,none⟩=some (.int .i64 (u:Int))/\W.frozen? ⟨a.heap.size,k,none⟩=false):=by
      show∀W,_;intro W b;exact⟨bf.out _ (aa D.out.1 b),(b.cell d1).trans b8,(b.cell ab).trans ca.1,(b.frozen ab).trans ca.2⟩
     clear ds d8 b8 d1 ca ab;by_cases d2:k+1<par
     ·have f1:=cg d2;have gd:(k:Int)+1<(par:Int):=oO;clear cg ce;go_wp2;clear n o t M f1;refine bj (S:=af wr) 19 oK oK (ai (Below.refl _ _)) ?_;simp only[List.take_succ_cons,List.take_zero,List.drop_succ_cons,List.drop_zero]
      repeat refine kO E.out ?_
      refine kX (λW b=>iy C S P q y W c.out.vf cp.out dv.out) ?_
      repeat refine kO E.out ?_
      refine kX (λW b=>oH C S P V (au S P q y) W c.out.vf dy.out (aO c.out.vf _ _)) ?_
      repeat refine kO E.out ?_
      refine bR ?_;intro z N;have l:=Lib.hid N;clear N;obtain⟨-,-,f2,f3⟩:=E.out z l.out;go_wp2;clear b9 dx;exact⟨⟨k+1,by omega,by go_num,by rw[<-d0.out];exact⟨(aa D.out.1 l.out).setCell (Nat.le_refl _) _,(D.out.2.below l.out).set _ _⟩⟩,by simp[intOf];omega⟩
     ·have eq:=ce d2;subst eq;have gd:¬((k:Int)+1<(par:Int)):=oO;clear cg ce;go_wp2;clear n o t M;refine bj (S:=af wr) 19 oK oK (ai (Below.refl _ _)) ?_;simp only[List.take_succ_cons,List.take_zero,List.drop_succ_cons,List.drop_zero]
      repeat refine kO E.out ?_
      refine kX (λW b=>iy C S P q y W c.out.vf cp.out dv.out) ?_
      repeat refine kO E.out ?_
      refine kX (λW b=>oH C S P 0 (au S P q y) W c.out.vf dy.out (aO c.out.vf _ _)) ?_
      repeat refine kO E.out ?_
      refine bR ?_;intro z N;have l:=Lib.hid N;clear N;obtain⟨-,-,f2,f3⟩:=E.out z l.out;go_wp2;clear b9 dx;exact⟨⟨k+1,by omega,by go_num,by rw[<-d0.out];exact⟨(aa D.out.1 l.out).setCell (Nat.le_refl _) _,(D.out.2.below l.out).set _ _⟩⟩,by simp[intOf];omega⟩
    ·obtain rfl:k=par:=oO;go_wp2;exact⟨⟨i+1,by omega,by go_num,by rw[fv.out];exact D⟩,by simp[intOf];omega⟩
  ·obtain rfl:i=m:=oO;have a1:Hid ((jN S P par g data i).length=par):=qg _ _ _ _ _ _;have a8:Hid (aj S (jN S P par g data i)):=pM c.out.vf _ _ _;generalize jN S P par g data i=R at*
   have O:Hid (an wr a.heap.size (R.map vN)):=⟨B.out.2.1,λj b2=>by
    rw[List.length_map]at b2;rw[(B.out.2.2 j b2).1]
    simp[List.getD,b2]⟩
   have ac:Hid (wr.ownsRow f.heap.size 3 1 (.slice bt i bv) (i+0) ((zl (data++(List.range 0).map λk=>aM S P 0 (R.getD k 0))).map (Value.int .i64))):=by
    show World.ownsRow _ _ _ _ _ _ _;have:=ao c4.out B.out.1;simpa using this
   have a3:Hid (∀q,(Value.slice bt i bv).ownBlock=some q->q≠a.heap.size):=by
    show∀q,_;intro q hq;have:=(c4.out.lt q hq).2;omega
   have F:Hid (af f wr):=aa Z.out B.out.1;have ea:Hid (∀W,af f W->W.cell? ⟨w.heap.size,0,none⟩=some (.int .i64 C)/\W.cell? ⟨w.heap.size,1,none⟩=some (.int .i64 S)/\W.cell? ⟨w.heap.size,2,none⟩=some (.int .i64 P)/\W.cell? ⟨w.heap.size,3,none⟩=some (.int .i64 par)):=by
    show∀W,_;intro W b;obtain⟨n,o,t,M,-⟩:=Q.out _ (aa Y.out b);exact⟨n,o,t,M⟩
   have g2:Hid (f.heap.size<=a.heap.size):=Z.out.size;clear B c6 d7 c7 bf;go_wp2;go_loopw [7,13] (λer U wr=>∃(k:Nat) (av:Option Addr) (a4:Nat),k<=par/\U= .int .i64 k/\er= .slice av (i+k) a4/\Hid (af f wr)/\Hid (an wr a.heap.size (R.map vN))/\Hid (wr.ownsRow f.heap.size 3 1 (.slice av (i+k) a4) (i+k) ((zl (data++(List.range k).map λk=>aM S P 0 (R.getD k 0))).map (Value.int .i64)))/\Hid (∀q,(Value.slice av (i+k) a4).ownBlock=some q->q≠a.heap.size)) (λ_ U _=>par-(intOf U).toNat)
   case atStart=>exact⟨0,bt,bv,Nat.zero_le _,rfl,rfl,F,O,ac,a3⟩
   case round=>
    clear F O ac a3;obtain⟨k,av,a4,f0,rfl,rfl,F,O,ac,a3⟩:=hrel;obtain⟨n,o,t,M⟩:=ea.out _ F.out;by_cases a5:k<par
    ·have es:Hid (R.getD k 0<S):=a8.out k;have f4:Hid (zl (data++(List.range k).map λk=>aM S P 0 (R.getD k 0))++zl [aM S P 0 (R.getD k 0)]=zl (data++(List.range (k+1)).map λk=>aM S P 0 (R.getD k 0))):=by
      show _=_;rw[List.range_succ,List.map_append,<-List.append_assoc];unfold zl;rw[<-List.map_append];rfl
     have E:Hid (∀W,(af f W/\an W a.heap.size (R.map vN))->(W.cell? ⟨w.heap.size,0,none⟩=some (.int .i64 C)/\W.cell? ⟨w.heap.size,1,none⟩=some (.int .i64 S)/\W.cell? ⟨w.heap.size,2,none⟩=some (.int .i64 P))/\W.cell? ⟨a.heap.size,k,none⟩=some (.int .i64 ((R.getD k 0:Nat):Int))):=by
      show∀W,_;rintro W ⟨b,et⟩;obtain⟨n,o,t,-⟩:=ea.out _ b;refine⟨⟨n,o,t⟩,?_⟩;rw[et.2 k (by rw[List.length_map,a1.out];exact a5)];have f5:k<R.length:=by rw[a1.out];exact a5
      simp[List.getD,f5]
     generalize f6:zl (data++(List.range k).map λk=>aM S P 0 (R.getD k 0))=gs at*;generalize R.getD k 0=x at*;clear f6;have d3:Hid (f.heap.size<=wr.heap.size):=F.out.size;go_wp2;clear n o t M;refine yO (λW=>af f W/\an W a.heap.size (R.map vN)) [1,2,3,4,5,6,7,0,8,9,10,0,11] ⟨F.out.drew,O.out.drew⟩ ?_
     repeat refine zO E.out ?_
     refine zZ ?_;refine(xD C S P x _ c.out.vf es.out).mono ?_;rintro e z ⟨rfl,d4⟩;have l:Hid (af wr z):=aa (ai (Below.refl _ _)) d4;clear d4;generalize aM S P 0 x=y at*;refine⟨_,rfl,⟨aa F.out l.out,O.out.below l.out⟩,jO ?_⟩;refine' zQ (v:= .slice (some ⟨z.heap.size,0,none⟩) 1 1) (w':=z.alloc (.cells #[.int .i64 y] 3)) rfl (by go_simp) ⟨ah (aa F.out l.out) _,(O.out.below l.out).alloc _⟩ ?_;have ad:Hid (af wr (z.alloc (.cells #[.int .i64 (y:Int)] 3))):=ah l.out _;have f7:Hid (RD (z.alloc (.cells #[.int .i64 (y:Int)] 3)) (some ⟨z.heap.size,0,none⟩) (zl [y])):=RD.lit z [y] 3 _ rfl;refine' j3 (ys:=zl [y]) (ao ac.out ad.out) (Nat.le_trans d3.out ad.out.size) rfl _ _ rfl rfl rfl rfl (Nat.le_refl _) f7.out oO ?_;intro b3 b4 b5 X hg be;have f8:Hid (b5.ownsRow f.heap.size 3 1 (.slice b3 (i+(k+1)) b4) (i+(k+1)) ((zl (data++(List.range (k+1)).map λk=>aM S P 0 (R.getD k 0))).map (Value.int .i64))):=by
      show World.ownsRow _ _ _ _ _ _ _;rw[<-f4.out];exact X
     have d5:Hid (af f b5):=(aa F.out ad.out).grown hg (Nat.le_trans d3.out ad.out.size) (λq hq=>(ac.out.lt q hq).1);have d6:Hid (an b5 a.heap.size (R.map vN)):=(O.out.below ad.out).grown hg a3.out;have f9:Hid (∀q,(Value.slice b3 (i+(k+1)) b4).ownBlock=some q->q≠a.heap.size):=by
      show∀q,_;intro q hq;rcases be with e|e
      ·exact a3.out q (e.symm.trans hq)
      ·have bs:=e.symm.trans hq;injection bs with bs;have ch:=O.out.1;have gt:=ad.out.size;omega
     clear X hg be;refine⟨⟨d5.out,d6.out⟩,?_⟩;simp only[yQ,yU,yX,yY]
     repeat refine zO E.out ?_
     refine ag ?_;go_wp2;exact⟨⟨k+1,b3,b4,by omega,by go_num,rfl,d5,d6,f8,f9⟩,by simp[intOf];omega⟩
    ·obtain rfl:k=par:=oO;have ge:Hid (aq wr (.slice av (i+k) a4) (zl (fa S P k first data))):=by
      show aq _ _ _;rw[<-ga.out];have bb:=aq.bK ac.out;exact bb
     go_wp2;go_ret2
     exact jK.mk rfl ge.out (aa (aa cb.out Y.out) F.out)
theorem yt (C S P x:Nat) (l:List Nat) (n:Nat) (s:n=l.length) (A:Option Addr) (z:Nat) (w:World) (d:VF C S P) (f:x<S) (hl:aj S l) (hn:n<=4097) (g:RD w A (zl l)):
 Calls Tryz.prog 172 #[aN C S P,.slice A n z,.int .i64 x] w λe w'=>e= .returned (.int .i64 ((hornN S P x l:Nat):Int))/\Below w.heap.size w w':=by
 have b:=Lib.hid d;have o:=Lib.hid hl;have B:=Lib.hid f;have p:=Lib.hid (g.alloc (dS C S P));have D:Hid (an (w.alloc (dS C S P)) w.heap.size (jS C S P)):=an.new _ _ _ _ rfl;have a:Hid (l.length=n):=s.symm;clear s d hl f g;go_enter Tryz.func172,Tryz.ntmps172;go_wp2;go_loopw [7,8] (λv i wr=>∃(k:Nat) (j:Int),k<=n/\i= .int .i64 j/\Hid (j=(k:Int)-1)/\v= .int .i64 ((hornN S P x (l.drop k):Nat):Int)/\Hid (Below (w.alloc (dS C S P)).heap.size (w.alloc (dS C S P)) wr)) (λ_ i _=>(intOf i+1).toNat)
 case atStart=>exact⟨n,_,Nat.le_refl _,rfl,rfl,by rw[<-a.out,List.drop_length];rfl,Below.refl _ _⟩
 case round=>
  obtain⟨k,j,O,rfl,q,rfl,hb⟩:=hrel;by_cases J:k=0
  ·subst J;have T:j<0:=by have:=q.out;omega
   go_wp2;go_ret;exact⟨rfl,cQ hb.out⟩
  ·obtain⟨m,rfl⟩:∃m,k=m+1:=⟨k-1,by omega⟩;obtain rfl:j=(m:Int):=by have:=q.out;omega
   obtain⟨E,rfl,-,K⟩:=p.out (by rw[ak,a.out];omega);have r:Hid (∀W,Below (w.alloc (dS C S P)).heap.size (w.alloc (dS C S P)) W->(W.cell? ⟨w.heap.size,0,none⟩=some (.int .i64 C)/\W.cell? ⟨w.heap.size,1,none⟩=some (.int .i64 S)/\W.cell? ⟨w.heap.size,2,none⟩=some (.int .i64 P))/\W.cell? (E.add m)=some (.int .i64 ((l.getD m 0:Nat):Int))):=by
    show∀W,_;intro W c;refine⟨eA (D.out.below c),?_⟩;obtain⟨U,e,_,hc⟩:=p.out.below c (by rw[ak,a.out];omega);injection e with e;subst e;rw[hc m (by rw[ak,a.out];omega),bw]
   have L:=Lib.hid (uQ S P x l m (by rw[a.out];omega));have M:Hid (hornN S P x (l.drop (m+1))<S):=gW b.out x _ (λy F=>ek o.out y (List.mem_of_mem_drop F));have N:Hid (l.getD m 0<S):=o.out m;generalize G:hornN S P x (l.drop (m+1))=u at*;have V:m<n:=oO;clear G K;go_wp2;refine bj (S:=af (w.alloc (dS C S P))) 10 oK oK (ai hb.out) ?_;simp only[List.take_succ_cons,List.take_zero,List.drop_succ_cons,List.drop_zero]
   repeat refine kO r.out ?_
   refine kX (λW c=>iy C S P u x W b.out M.out B.out) ?_
   repeat refine kO r.out ?_
   refine kX (λW c=>wa C S P (au S P u x) (l.getD m 0) W b.out (aO b.out _ _) N.out) ?_;refine bR ?_;intro Q t;have H:=Lib.hid t;clear t;go_wp2;exact⟨⟨m,_,by omega,rfl,rfl,by rw[L.out],H⟩,by simp[intOf]⟩
theorem DZ (C S P x:Nat) (l:List Nat) (n:Nat) (p:n=l.length) (A:Option Addr) (r:Nat) (w:World) (d:VF C S P) (f:x<S) (hl:aj S l) (hn:n<=4097) (g:RD w A (zl l)):
 Calls Tryz.prog 209 #[aN C S P,.slice A n r,.int .i64 x] w λe w'=>e= .returned (.int .i64 ((eE S P x l n:Nat):Int))/\Below w.heap.size w w':=by
 have a:=Lib.hid d;have j:=Lib.hid hl;have s:=Lib.hid f;have m:=Lib.hid (g.alloc (dS C S P));have t:Hid (an (w.alloc (dS C S P)) w.heap.size (jS C S P)):=an.new _ _ _ _ rfl;have c:Hid (l.length=n):=p.symm;clear p d hl f g;go_enter Tryz.func209,Tryz.ntmps209;go_wp2;go_loopw [7,8] (λv i wr=>∃k:Nat,k<=n/\i= .int .i64 k/\v= .int .i64 ((eE S P x l k:Nat):Int)/\Hid (Below (w.alloc (dS C S P)).heap.size (w.alloc (dS C S P)) wr)) (λ_ i _=>n-(intOf i).toNat)
 case atStart=>exact⟨0,Nat.zero_le _,rfl,rfl,Below.refl _ _⟩
 case round=>
  obtain⟨k,G,rfl,rfl,hb⟩:=hrel;by_cases J:k<n
  ·obtain⟨y,rfl,-,B⟩:=m.out (by rw[ak,c.out];omega);have o:Hid (∀W,Below (w.alloc (dS C S P)).heap.size (w.alloc (dS C S P)) W->(W.cell? ⟨w.heap.size,0,none⟩=some (.int .i64 C)/\W.cell? ⟨w.heap.size,1,none⟩=some (.int .i64 S)/\W.cell? ⟨w.heap.size,2,none⟩=some (.int .i64 P))/\W.cell? (y.add k)=some (.int .i64 ((l.getD k 0:Nat):Int))):=by
    show∀W,_;intro W b;refine⟨eA (t.out.below b),?_⟩;obtain⟨K,e,_,hc⟩:=m.out.below b (by rw[ak,c.out];omega);injection e with e;subst e;rw[hc k (by rw[ak,c.out];omega),bw]
   have D:Hid (eE S P x l (k+1)=aT S P (au S P (eE S P x l k) x) (l.getD k 0)):=rfl;have E:Hid (eE S P x l k<S):=mV a.out j.out k;have F:Hid (l.getD k 0<S):=j.out k;generalize eE S P x l k=u at*;clear B;go_wp2;refine bj (S:=af (w.alloc (dS C S P))) 10 oK oK (ai hb.out) ?_;simp only[List.take_succ_cons,List.take_zero,List.drop_succ_cons,List.drop_zero]
   repeat refine kO o.out ?_
   refine kX (λW b=>iy C S P u x W a.out E.out s.out) ?_
   repeat refine kO o.out ?_
   refine kX (λW b=>wa C S P (au S P u x) (l.getD k 0) W a.out (aO a.out _ _) F.out) ?_;refine bR ?_;intro H q;have z:=Lib.hid q;clear q;go_wp2;exact⟨⟨k+1,by omega,by go_num,by rw[D.out],z⟩,by simp[intOf];omega⟩
  ·obtain rfl:k=n:=oO;go_wp2;go_ret;exact⟨rfl,cQ hb.out⟩
theorem xk (l:List Nat) (n k:Nat) (hn:n=l.length) (A:Option Addr) (b:Nat) (w:World) (a:RD w A (zl l)):
 Calls Tryz.prog 211 #[.slice A n b,.int .i64 k] w λe w'=>e= .returned (.int .i64 ((l.getD k 0:Nat):Int))/\w'=w:=by
 by_cases h:k<n
 ·obtain⟨d,rfl,-,hc⟩:=a (by rw[ak];omega);have c:=hc k (by rw[ak,<-hn];exact h);rw[bw]at c;generalize l.getD k 0=x at*;clear hc a hn;go_enter Tryz.func211,Tryz.ntmps211;go_wp2;go_ret;exact⟨rfl,rfl⟩
 ·have e:l.getD k 0=0:=iW oO;rw[e];clear a hn;go_enter Tryz.func211,Tryz.ntmps211;go_wp2;go_ret;exact⟨rfl,rfl⟩
theorem FW (s p first i:Nat) (w:List Nat):zl (bp s p i first w)++zl [fL s p first w i]=zl (bp s p (i+1) first w):=by
 unfold bp;rw[List.range_succ,List.map_append];unfold zl;rw[<-List.map_append];rfl
theorem xP (C S P par first:Nat) (l:List Nat) (n:Nat) (A:Option Addr) (d:Nat) (w:World) (h:dF C S P par first) (hn:n=l.length) (hl:aj S l) (a2:n<=4097) (r:RD w A (zl l)):
 Calls Tryz.prog 168 #[cf C S P par first,.slice A n d] w λe w'=>∃v,e= .returned v/\aq w' v (zl (bp S P par first l))/\Below w.heap.size w w':=by
 have g:=Lib.hid h;obtain⟨s3,bb⟩:=h.s3;have bd:=h.p1;have U:=h.p2;have s:=gT w C S P par first
 have a9:Hid (Below w.heap.size w (w.alloc (eT C S P par first))):=(Below.refl _ _).alloc (Nat.le_refl _) _;have V:Hid (∀W x,af w W->x<S->Calls Tryz.prog 209 #[aN C S P,.slice A n d,.int .i64 ((x:Nat):Int)] W λe w'=>e= .returned (.int .i64 ((eE S P x l n:Nat):Int))/\Below W.heap.size W w'):=λW x c X=>DZ C S P x l n hn A d W g.out.vf X hl a2 (r.below c);have a3:Hid (n=l.length):=hn;have bt:par<=4094:=oO;obtain⟨Y,Z,ab,ac,ad⟩:=s.out _ (Below.refl _ _);clear h U hn r;go_enter Tryz.func168,Tryz.ntmps168;go_wp2_with(go_at_call 185;refine(vi C S P par first _ g.out).mono ?_;rintro e a ⟨be,rfl,B,D⟩;obtain⟨bf,bi,rfl,-,-,E⟩:=aq.nat B;rw[fh];have F:=Lib.hid E;have G:=Lib.hid D;clear E B D Y Z ab ac ad)
 have H:Hid (af w a):=aa a9.out G.out;go_loopw [6,7] (λal j wr=>∃(i:Nat) (k:Option Addr) (m:Nat),i<=par/\j= .int .i64 i/\al= .slice k i m/\Hid (af a wr)/\Hid (wr.ownsRow a.heap.size 3 1 (.slice k i m) i ((zl (bp S P i first l)).map (Value.int .i64)))) (λ_ j _=>par-(intOf j).toNat)
 case atStart=>exact⟨0,none,0,Nat.zero_le _,rfl,rfl,Below.refl _ _,World.ownsRow_nil _ _ _ _⟩
 case round=>
  obtain⟨i,k,m,bq,rfl,rfl,hB,o⟩:=hrel;by_cases J:i<par
  ·have am:Hid (bV S P (first+i)<S):=dD g.out.vf _;have e1:(eZ S P first par).getD i 0=bV S P (first+i):=by unfold eZ;exact aQ _ _ _ J
   obtain⟨ap,rfl,-,-⟩:=F.out (by rw[ak,fh];omega);have K:Hid (∀W,af a W->(W.cell? ⟨w.heap.size,0,none⟩=some (.int .i64 C)/\W.cell? ⟨w.heap.size,1,none⟩=some (.int .i64 S)/\W.cell? ⟨w.heap.size,2,none⟩=some (.int .i64 P))/\W.cell? (ap.add i)=some (.int .i64 ((bV S P (first+i):Nat):Int))):=by
    show∀W,_;intro W c;obtain⟨av,a0,a1,-⟩:=s.out _ (aa G.out c);refine⟨⟨av,a0,a1⟩,?_⟩;obtain⟨bs,e,_,hc⟩:=F.out.below c (by rw[ak,fh];omega);injection e with e;subst e;rw[hc i (by rw[ak,fh];exact J),bw,e1]
   have L:Hid (fL S P first l i=eE S P (bV S P (first+i)) l n):=by show _=_;rw[a3.out];rfl
   have M:Hid (zl (bp S P i first l)++zl [fL S P first l i]=zl (bp S P (i+1) first l)):=FW S P first i l
   rw[L.out]at M;clear L e1;have a4:Hid (∀W,af w W->Calls Tryz.prog 209 #[aN C S P,.slice A n d,.int .i64 ((bV S P (first+i):Nat):Int)] W λe w'=>e= .returned (.int .i64 ((eE S P (bV S P (first+i)) l n:Nat):Int))/\Below W.heap.size W w'):=λW c=>V.out W _ c am.out;generalize a5:zl (bp S P i first l)=bo at*;generalize eE S P (bV S P (first+i)) l n=y at*;generalize bV S P (first+i)=x at*;clear a5;have N:Hid (a.heap.size<=wr.heap.size):=hB.out.size;go_wp2;refine yO (λW=>af a W) [1,2,3,4,5,6,7,8,0,9,10,11,0,12] (hB.out.drew) ?_
   repeat refine zO K.out ?_
   refine zZ ?_;refine(a4.out _ (aa H.out hB.out.drew)).mono ?_;rintro e b ⟨rfl,O⟩;have p:Hid (af wr b):=aa (ai (Below.refl _ _)) O;clear O;refine⟨_,rfl,aa hB.out p.out,jO ?_⟩;refine' zQ (v:= .slice (some ⟨b.heap.size,0,none⟩) 1 1) (w':=b.alloc (.cells #[.int .i64 y] 3)) rfl (by go_simp) (ah (aa hB.out p.out) _) ?_;have f:Hid (af wr (b.alloc (.cells #[.int .i64 (y:Int)] 3))):=ah p.out _;have a6:Hid (RD (b.alloc (.cells #[.int .i64 (y:Int)] 3)) (some ⟨b.heap.size,0,none⟩) (zl [y])):=RD.lit b [y] 3 _ rfl;refine' j3 (ys:=zl [y]) (ao o.out f.out) (Nat.le_trans N.out f.out.size) rfl _ _ rfl rfl rfl rfl (Nat.le_refl _) a6.out oO ?_;intro t u z T hg a7;have a8:Hid (z.ownsRow a.heap.size 3 1 (.slice t (i+1) u) (i+1) ((zl (bp S P (i+1) first l)).map (Value.int .i64))):=by
    show World.ownsRow _ _ _ _ _ _ _;rw[<-M.out];exact T
   have Q:Hid (af a z):=(aa hB.out f.out).grown hg (Nat.le_trans N.out f.out.size) (λq hq=>(o.out.lt q hq).1);clear T hg a7;refine⟨Q.out,?_⟩;simp only[yQ,yU,yX,yY]
   repeat refine zO K.out ?_
   refine ag ?_;go_wp2;exact⟨⟨i+1,t,u,by omega,by go_num,rfl,Q,a8⟩,by simp[intOf];omega⟩
  ·obtain rfl:i=par:=oO;go_wp2;go_ret;exact⟨_,rfl,aq.bK o.out,aa H.out hB.out⟩
def Ew (s p:Nat) (a b:List Nat) (n d j:Nat):Nat:=aM s p (a.getD j 0) (if n<=j then au s p d (b.getD (j-n) 0)else 0)
def nr (s p c:Nat) (a b:List Nat) (n d i:Nat):List Nat:=(List.range c).map λj=>if j<i then Ew s p a b n d j else 0
theorem mu (s p c:Nat) (a b:List Nat) (n d i:Nat):(nr s p c a b n d i).length=c:=by unfold nr;simp
theorem Hs (s p e:Nat) (a b:List Nat) (n d:Nat):nr s p e a b n d 0=List.replicate e 0:=by
 refine cD (by rw[mu,List.length_replicate]) λj c=>?_;rw[mu]at c;unfold nr;rw[aQ _ _ _ c,if_neg oO];simp[List.getD,c]
theorem Ge (s p c:Nat) (a b:List Nat) (n d i:Nat) (g:i<c):(nr s p c a b n d i).set i (Ew s p a b n d i)=nr s p c a b n d (i+1):=by
 unfold nr;rw[dN _ _ _ _ g];apply List.map_congr_left;intro j k;by_cases e:j=i
 ·subst e;rw[if_pos rfl,if_pos (show j<j+1 by omega)]
 ·rw[if_neg e];by_cases f:j<i
  ·rw[if_pos f,if_pos (show j<i+1 by omega)]
  ·rw[if_neg f,if_neg (show¬j<i+1 by omega)]
theorem o4 {c s p:Nat} (h:VF c s p) {x:Nat} (a:x<s):aM s p x 0=x:=
 fy h (eI h a (by have:=h.aG;omega)) a (by rw[gO h a (by have:=h.aG;omega),aZ,eF])
theorem I2 {c s p:Nat} (h:VF c s p) {a b:List Nat} (g:aj s a) {n d:Nat} (i:d<s):nr s p (max a.length (b.length+n)) a b n d (max a.length (b.length+n))=bT s p a b n d b.length:=by
 unfold nr bT;apply List.map_congr_left;intro j e;have e:=List.mem_range.1 e;rw[if_pos e];unfold Ew;by_cases f:n<=j
 ·rw[if_pos f];by_cases k:j-n<b.length
  ·rw[if_pos ⟨f,k⟩]
  ·rw[if_neg oO,iW (l:=b) oO,mM h i,o4 h (g j)]
 ·rw[if_neg f,if_neg oO,o4 h (g j)]
theorem yu (C S P:Nat) (a b:List Nat) (A B:Option Addr) (n m z D d g:Nat) (w:World) (s:VF C S P) (J:aj S a) (U:aj S b) (hn:n=a.length) (E:m=b.length) (bd:1<=n) (be:n<=4097) (am:m+g<=4097) (F:d<S) (L:RD w A (zl a)) (hb:RD w B (zl b)):
 Calls Tryz.prog 212 #[aN C S P,.slice A n z,.slice B m D,.int .i64 d,.int .i64 g] w λe w'=>∃v,e= .returned v/\aq w' v (zl (bT S P a b g d b.length))/\Below w.heap.size w w':=by
 obtain⟨f,M⟩:∃f,f=max n (m+g):=⟨_,rfl⟩;have ap:max (n:Int) ((m:Int)+(g:Int))=(f:Int):=oO;have bf:1<=f:=oO;have bi:f<=4097:=oO;have av:=run_make_row' (P:=Tryz.prog) 64 3 (.int .i64 0) 8 Tryz.underlying64 bZ rfl .i64 .i64 f oO oO;have t:=Lib.hid s;have a0:=Lib.hid J;have a1:=Lib.hid U;have Z:=Lib.hid L;have ab:=Lib.hid hb;have ac:=Lib.hid F;have a2:Hid (2<=S):=s.aG;have a7:Hid (nr S P f a b g d f=bT S P a b g d m):=by
  have:=I2 s J (b:=b) (n:=g) F;rw[<-hn,<-E,<-M]at this;exact this
 have ad:=Lib.hid hn;have N:=Lib.hid E;have hg:g<=4097:=oO;clear s J U L hb hn E M F am;go_enter Tryz.func212,Tryz.ntmps212;go_wp2;clear av ap;go_loopw [12] (λG wr=>∃i:Nat,i<=f/\G= .int .i64 i/\Hid (fC w wr (jS C S P) (nr S P f a b g d i))) (λG _=>f-(intOf G).toNat)
 case atStart=>exact⟨0,Nat.zero_le _,rfl,by rw[Hs];exact fC.FV w C S P f _⟩
 case round=>
  obtain⟨i,a9,rfl,l⟩:=hrel;by_cases V:i<f
  ·have p:Hid (_=_):=Ge S P f a b g d i V;obtain⟨c1,O⟩:=l.out.O.2 i (by rw[mu];exact V);have K:=l.out.O.1;have Q:Hid (a.getD i 0<S):=a0.out i;have X:Hid (∀W,af wr W->Calls Tryz.prog 211 #[.slice A n z,.int .i64 i] W λe w'=>e= .returned (.int .i64 ((a.getD i 0:Nat):Int))/\Below W.heap.size W w'):=λW j=>(xk a n i ad.out A z W ((Z.out.below l.out.B).below j)).mono λe w' h=>⟨h.1,by rw[h.2];exact Below.refl _ _⟩;obtain⟨q,hq⟩:∃q,q=i-g:=⟨_,rfl⟩;have a3:Hid (∀W,af wr W->Calls Tryz.prog 211 #[.slice B m D,.int .i64 q] W λe w'=>e= .returned (.int .i64 ((b.getD q 0:Nat):Int))/\Below W.heap.size W w'):=λW j=>(xk b m q N.out B D W ((ab.out.below l.out.B).below j)).mono λe w' h=>⟨h.1,by rw[h.2];exact Below.refl _ _⟩;have al:Hid (b.getD q 0<S):=a1.out q;unfold Ew at p;rw[<-hq]at p;generalize a.getD i 0=x at*;generalize b.getD q 0=y at*;generalize(nr S P f a b g d i).getD i 0=u at*;have k:Hid (∀W,af wr W->(W.cell? ⟨w.heap.size,0,none⟩=some (.int .i64 C)/\W.cell? ⟨w.heap.size,1,none⟩=some (.int .i64 S)/\W.cell? ⟨w.heap.size,2,none⟩=some (.int .i64 P))/\W.cell? ⟨w.heap.size+1,i,none⟩=some (.int .i64 (u:Int))/\W.frozen? ⟨w.heap.size+1,i,none⟩=false):=by
    show∀W,_;intro W j;exact⟨eA (l.out.X.below j),(j.cell K).trans c1,(j.frozen K).trans O⟩
   clear c1 O K;by_cases Y:g<=i
   ·have bo:IntKind.i64.wrap ((i:Int)-(g:Int))=(q:Int):=by rw[aE _ oO oO];omega
    have a8:(g:Int)<=(i:Int):=oO;rw[if_pos Y]at p;clear hq;go_wp2;refine bj (S:=af wr) 8 oK oK (ai (Below.refl _ _)) ?_;simp only[List.take_succ_cons,List.take_zero,List.drop_succ_cons,List.drop_zero]
    repeat refine kO k.out ?_
    refine kX (λW j=>a3.out W j) ?_
    repeat refine kO k.out ?_
    refine kX (λW j=>iy C S P d y W t.out ac.out al.out) ?_
    repeat refine kO k.out ?_
    refine bR ?_;intro bb o;have a4:=Lib.hid o;clear o;go_wp2;refine bj (S:=af wr) 9 oK oK (ai a4.out) ?_;simp only[List.take_succ_cons,List.take_zero,List.drop_succ_cons,List.drop_zero]
    repeat refine kO k.out ?_
    refine kX (λW j=>X.out W j) ?_
    repeat refine kO k.out ?_
    refine kX (λW j=>oH C S P x (au S P d y) W t.out Q.out (aO t.out _ _)) ?_
    repeat refine kO k.out ?_
    refine bR ?_;intro H o;have r:=Lib.hid o;clear o;obtain⟨-,a5,a6⟩:=k.out H r.out;go_wp2;exact⟨⟨i+1,by omega,by go_num,by rw[<-p.out];exact(l.out.below r.out).set _ _⟩,by simp[intOf];omega⟩
   ·have a8:¬(g:Int)<=(i:Int):=oO;rw[if_neg Y]at p;clear hq;go_wp2;refine bj (S:=af wr) 9 oK oK (ai (Below.refl _ _)) ?_;simp only[List.take_succ_cons,List.take_zero,List.drop_succ_cons,List.drop_zero]
    repeat refine kO k.out ?_
    refine kX (λW j=>X.out W j) ?_
    repeat refine kO k.out ?_
    refine kX (λW j=>oH C S P x 0 W t.out Q.out (by have:=a2.out;omega)) ?_
    repeat refine kO k.out ?_
    refine bR ?_;intro H o;have r:=Lib.hid o;clear o;obtain⟨-,a5,a6⟩:=k.out H r.out;go_wp2;exact⟨⟨i+1,by omega,by go_num,by rw[<-p.out];exact(l.out.below r.out).set _ _⟩,by simp[intOf];omega⟩
  ·obtain rfl:i=f:=oO;go_wp2;go_ret;refine⟨_,rfl,?_,l.out.B⟩;have T:=l.out.O.ints (c:=i) (mu _ _ _ _ _ _ _ _).symm (Nat.le_refl _) oM;rw[a7.out,N.out]at T;exact T
noncomputable def r6 (s p n k:Nat):List Nat:=(List.range n).map λj=>if k<=j then bV s p (n-1-j)else 0
noncomputable def CR (s p n:Nat):List Nat:=r6 s p n 0
theorem lq (s p n k:Nat):(r6 s p n k).length=n:=by unfold r6;simp
theorem Fv (s p n:Nat):r6 s p n n=List.replicate n 0:=by
 refine cD (by rw[lq,List.length_replicate]) λj a=>?_;rw[lq]at a;unfold r6;rw[aQ _ _ _ a,if_neg oO];simp[List.getD,a]
theorem H2 (s p n k:Nat) (b:k<n):(r6 s p n (k+1)).set k (bV s p (n-(k+1)))=r6 s p n k:=by
 unfold r6;rw[dN _ _ _ _ b];apply List.map_congr_left;intro j c;by_cases e:j=k
 ·subst e;rw[if_pos rfl,if_pos (Nat.le_refl _),show n-1-j=n-(j+1)from by omega]
 ·rw[if_neg e];by_cases a:k+1<=j
  ·rw[if_pos a,if_pos (show k<=j by omega)]
  ·rw[if_neg a,if_neg (show¬k<=j by omega)]
theorem Jc (s p n i:Nat) (a:i<n):(CR s p n).getD i 0=bV s p (n-1-i):=by
 unfold CR r6;rw[aQ _ _ _ a,if_pos (Nat.zero_le _)]
theorem CM (C S P n:Nat) (w:World) (a:VF C S P) (V:1<=n) (hn:n<=4097):
 Calls Tryz.prog 169 #[aN C S P,.int .i64 n] w λe w'=>∃v,e= .returned v/\aq w' v (zl (CR S P n))/\Below w.heap.size w w':=by
 have hg:=jy a;have L:=Lib.hid a;have D:=run_make_row' (P:=Tryz.prog) 64 3 (.int .i64 0) 8 Tryz.underlying64 bZ rfl .i64 .i64 n oO oO;have u:Hid (an (w.alloc (dS C S P)) w.heap.size (jS C S P)):=an.new _ _ _ _ rfl;have E:Hid (∀W,Calls Tryz.prog 210 #[aN C S P] W λe w'=>e= .returned (.int .i64 ((aw S P:Nat):Int))/\Below W.heap.size W w'):=λW=>rq C S P W a;have F:Hid (∀W j,Calls Tryz.prog 148 #[aN C S P,.int .i64 ((bV S P j:Nat):Int),.int .i64 ((aw S P:Nat):Int)] W λe w'=>e= .returned (.int .i64 ((bV S P (j+1):Nat):Int))/\Below W.heap.size W w'):=by
  show∀W j,_;intro W j;have:=iy C S P (bV S P j) (aw S P) W a (dD a _) hg;rw[zx a]at this;exact this
 have z:Hid (bV S P 0=1):=by show _=_;rw[sR a];rfl
 clear a hg;generalize aw S P=G at*;go_enter Tryz.func169,Tryz.ntmps169;go_wp2_with(go_at_call 210;refine(E.out _).mono ?_;rintro e b ⟨rfl,p⟩;have f:=Lib.hid p;clear p)
 clear D;have H:Hid (af b (b.alloc (.cells (madeCells #[.int .i64 0] n) 3))/\ba (b.alloc (.cells (madeCells #[.int .i64 0] n) 3)) b.heap.size (r6 S P n n)):=by
  show _/\_;rw[Fv];exact⟨ax _ _,ba.made _ _ _ _ rfl⟩
 go_loopw [7,8] (λA d wr=>∃(k:Nat) (j:Int),k<=n/\d= .int .i64 j/\Hid (j=(k:Int)-1)/\A= .int .i64 ((bV S P (n-k):Nat):Int)/\Hid (af b wr/\ba wr b.heap.size (r6 S P n k))) (λ_ d _=>(intOf d+1).toNat)
 case atStart=>exact⟨n,_,Nat.le_refl _,rfl,rfl,by rw[Nat.sub_self,z.out];rfl,H⟩
 case round=>
  obtain⟨k,j,M,rfl,g,rfl,c⟩:=hrel;by_cases J:k=0
  ·subst J;have X:j<0:=by have:=g.out;omega
   go_wp2;go_ret;exact⟨_,rfl,c.out.2.ints (lq _ _ _ _).symm (Nat.le_refl _) oM,aa (aa (ax _ _) f.out) c.out.1⟩
  ·obtain⟨m,rfl⟩:∃m,k=m+1:=⟨k-1,by omega⟩;obtain rfl:j=(m:Int):=by have:=g.out;omega
   have q:m<n:=oO;have K:Hid (_=_):=H2 S P n m q;obtain⟨c1,N⟩:=c.out.2.2 m (by rw[lq];exact q);obtain⟨O,Q,T⟩:=eA (u.out.below (aa f.out c.out.1));have i:=Lib.hid (λW=>F.out W (n-(m+1)));have r:n-(m+1)+1=n-m:=oO;rw[r]at i;have Y:w.heap.size≠b.heap.size:=by have:=f.out.size;simp at this;omega
   generalize bV S P (n-(m+1))=x at*;generalize l:bV S P (n-m)=y at*;have B:=Lib.hid l;clear l r;go_wp2_with(go_at_call 148;refine(i.out _).mono ?_;rintro e U ⟨rfl,s⟩;have t:=Lib.hid s;clear s)
   refine⟨⟨m,_,by omega,rfl,rfl,by rw[B.out],?_⟩,by simp[intOf]⟩;have o:=c.out.2.set m x;rw[K.out]at o;exact⟨aa (c.out.1.setCell (Nat.le_refl _) _) t.out,o.below t.out⟩
theorem Ee {a:Act} {d:Oper} {W:World} {s x:Operand} (k:d.op= .call {callee:= .builtin .append,args:=#[s,x],argTypes:=#[64,64]}) (A:Option Addr) (n c:Nat) (l:List Nat) (hs:a.eval s= .slice none 0 0) (m:a.eval x= .slice A n c)
 (hn:n=l.length) (v:1<=n) (J:n<=100000) (i:RD W A (zl l)):
 ∃wb cw b,(execOp a.eval d).run Tryz.prog W= .ok (.value (.slice (some ⟨wb,0,none⟩) n cw)) b/\ba b wb l/\W.heap.size<=wb/\n<=cw/\cw<=maxLen/\Below W.heap.size W b:=by
 obtain⟨o,p,w,y,z⟩:=info_parts bZ
 obtain⟨C,b,B,f,hg,K⟩:=pz (P:=Tryz.prog) W W.heap.size 64 d.type 3 o _ Tryz.underlying64 p w y z rfl (.slice none 0 0) 0 [] (World.ownsRow_nil _ _ _ _) A n c (zl l) (by rw[ak];exact hn) i (λr=>by
  obtain⟨D,e,-⟩:=i (by rw[ak];omega)
  rw[r]at e;cases e) oO (Nat.le_refl _)
 rw[Nat.zero_add,List.nil_append]at f;rcases f.2 with⟨E,j⟩|⟨g,cap,L,rfl,j,F,t,u,G,H⟩
 ·omega
 ·refine⟨g,cap,b,?_,ba.bK f v,j,t,u,(Below.refl _ _).grown hg (Nat.le_refl _) (λq hq=>by cases hq)⟩;unfold execOp;simp only[k,resolve,invoke,builtin,Sem.run_bind,Sem.run_pure,Result.andThen_ok,List.map_toArray,List.map_cons,List.map_nil,hs,m,B]
theorem EE {a:Act} {d:Oper} {W:World} {l c:Operand} (e:d.op= .makeSlice 26 l c) (n:Nat) (hn:n<=100000) (hl:a.eval l= .int .i64 (n:Int)) (hc:a.eval c= .int .i64 (n:Int)):
 ∃b,(execOp a.eval d).run Tryz.prog W= .ok (.value (.slice (some ⟨W.heap.size,0,none⟩) n n)) b/\(W.heap.size<b.heap.size/\∀i,i<n->b.cell? ⟨W.heap.size,i,none⟩=some (.bool false))/\Below W.heap.size W b:=by
 have g:=run_make_row' (P:=Tryz.prog) 26 4 (.bool false) 1 Tryz.underlying26 gU rfl .i64 .i64 n oO oO W;refine⟨W.alloc (.cells (madeCells #[.bool false] n) 4),?_,⟨?_,λi f=>?_⟩,ax _ _⟩
 ·unfold execOp;simp only[e,hl,hc,g,Sem.run_bind,Sem.run_pure,Result.andThen_ok]
 ·simp
 ·rw[World.cell?_alloc_at _ _ _ _ rfl];unfold madeCells;rw[Array.getElem?_map,Array.getElem?_range,if_pos (by simpa using f)];simp[Nat.mod_one]
theorem GG (C S P par first a bl wb eb n cw:Nat):Tryz.prog.built 155 [(0,fm C S a bl),(1,cf C S P par first),(2,.slice (some ⟨wb,0,none⟩) n cw),(3,.slice (some ⟨eb,0,none⟩) n n)]=some (rO C S a bl P par first wb n cw eb aH aH aH aH).toArray:=by
 kernel_rfl
theorem ph {a:Act} {c:Oper} {W:World} {x0 d e f:Operand} (g:c.op= .build 155 #[(0,x0),(1,d),(2,e),(3,f)]) {C S P par first b bl wb eb n cw:Nat}
 (i:a.eval x0=fm C S b bl) (j:a.eval d=cf C S P par first) (k:a.eval e= .slice (some ⟨wb,0,none⟩) n cw) (l:a.eval f= .slice (some ⟨eb,0,none⟩) n n):
 (execOp a.eval c).run Tryz.prog W= .ok (.value (.agg (rO C S b bl P par first wb n cw eb aH aH aH aH).toArray)) W:=by
 have m:=run_build (P:=Tryz.prog) W 155 #[(0,fm C S b bl),(1,cf C S P par first),(2,.slice (some ⟨wb,0,none⟩) n cw),(3,.slice (some ⟨eb,0,none⟩) n n)] _ (GG C S P par first b bl wb eb n cw);unfold execOp;simp only[g,List.map_toArray,List.map_cons,List.map_nil,i,j,k,l,m,Sem.run_bind,Sem.run_pure,Result.andThen_ok]
theorem rJ {a:Act} {b:Oper} {W:World} {x:Operand} (c:b.op= .box 155 x) {R:Array Value} (d:a.eval x= .agg R):
 (execOp a.eval b).run Tryz.prog W= .ok (.value (.pointer (some ⟨W.heap.size,0,none⟩))) (W.alloc (.cells R 155)):=by
 unfold execOp;simp only[c,d,Instr.box,newVar,newRow,Value.cells,Sem.run_bind,Sem.run_pure];rfl
theorem DS.made {w a:World} {M C S P par first n cw b bl wb eb:Nat} {l:List Nat} (h:dF C S P par first) (hl:aj S l) (hn:n=l.length) (n1:1<=n) (n2:n<=S-1) (m:n<=cw) (oZ:cw<=maxLen)
 (hB:Below w.heap.size w a) (d:dg a S P b bl) (e:ba a wb l) (f:eb<a.heap.size/\∀i,i<n->a.cell? ⟨eb,i,none⟩=some (.bool false)) (o:w.heap.size<=wb) (e1:b≠wb) (e2:bl≠wb) (e3:eb≠wb) (j:M=a.heap.size+1):
 DS ⟨w.heap.size,M,w,a.heap.size,wb,eb,b,bl,C,S,P,par,first,n,cw,λ_=>True⟩ (a.alloc (.cells (rO C S b bl P par first wb n cw eb aH aH aH aH).toArray 155)) aH aH aH aH l:=by
 have p:=d.1;have q:=d.2.1;have r:=e.1;have g:=f.1;have b0:=hB.size;have c:Below a.heap.size a (a.alloc (.cells (rO C S b bl P par first wb n cw eb aH aH aH aH).toArray 155)):=ax _ _;refine⟨⟨h.vf,h.p1,h.p2,h.f2,n1,n2,m,oZ,⟨b0,o⟩,by show a.heap.size≠wb;omega,by show b≠a.heap.size;omega,e1,by show bl≠a.heap.size;omega,e2,by show eb≠a.heap.size;omega,e3,λ_ _ _ _ _=>trivial,λ_ _ _ _ _ _=>trivial,?_⟩,aa hB c,by show M<=_;rw[j];simp,ae.new _ _ _ _ rfl,e.below c,hn,hl,d.below c,⟨Nat.lt_of_lt_of_le g c.size,λi k=>(c.cell g).trans (f.2 i k)⟩,trivial⟩;show w.heap.size<=M/\a.heap.size<M/\wb<M/\eb<M/\b<M/\bl<M;omega
def kh (W:World) (eb n:Nat):Prop:=eb<W.heap.size/\∀i,i<n->W.cell? ⟨eb,i,none⟩=some (.bool false)
theorem kh.below {W a:World} {eb n:Nat} (h:kh W eb n) (hb:Below W.heap.size W a):kh a eb n:=⟨Nat.lt_of_lt_of_le h.1 hb.size,λi b=>(hb.cell h.1).trans (h.2 i b)⟩
theorem qP {e:Array Oper} {S:World->Prop} {K:Act->World->Prop} {r:List (Bool×Nat×Oper)} {k:Nat} {d:Oper} {a:Act} {W:World} {s x:Operand} (u:Region.wanted d (yielded e a.tmps)=true) (p:d.op= .call {callee:= .builtin .append,args:=#[s,x],argTypes:=#[64,64]})
 (A:Option Addr) (n c:Nat) (l:List Nat) (hs:a.eval s= .slice none 0 0) (q:a.eval x= .slice A n c) (hn:n=l.length) (v:1<=n) (w:n<=100000) (t:RD W A (zl l))
 (f:∀wb cw b,ba b wb l->W.heap.size<=wb->n<=cw->cw<=maxLen->Below W.heap.size W b->S b/\bC Tryz.prog e S K r (a.put d.dst (.slice (some ⟨wb,0,none⟩) n cw)) b):bC Tryz.prog e S K ((true,k,d)::r) a W:=by
 obtain⟨wb,cw,b,y,g,i,j,m,o⟩:=Ee (a:=a) p A n c l hs q hn v w t;exact gK u y (f wb cw b g i j m o).1 (f wb cw b g i j m o).2
theorem qJ {e:Array Oper} {S:World->Prop} {K:Act->World->Prop} {r:List (Bool×Nat×Oper)} {k:Nat} {d:Oper} {a:Act} {W:World} {l c:Operand} (m:Region.wanted d (yielded e a.tmps)=true) (j:d.op= .makeSlice 26 l c) (n:Nat) (hn:n<=100000) (hl:a.eval l= .int .i64 (n:Int)) (hc:a.eval c= .int .i64 (n:Int))
 (f:∀b,kh b W.heap.size n->Below W.heap.size W b->S b/\bC Tryz.prog e S K r (a.put d.dst (.slice (some ⟨W.heap.size,0,none⟩) n n)) b):bC Tryz.prog e S K ((true,k,d)::r) a W:=by
 obtain⟨b,o,g,i⟩:=EE (a:=a) (W:=W) j n hn hl hc;exact gK m o (f b g i).1 (f b g i).2
def Mg (w:World) (C S P par first n:Nat) (l:List Nat) (A:Option Addr) (c d:Nat) (a a':Act) (W:World):Prop:=∃db wb eb b bl cw:Nat,
 a'=(((((((((((a.put (some 42) (.pointer (some ⟨d,0,none⟩))).put (some 43) (aN C S P)).put (some 45) (cf C S P par first)).put (some 46) (.slice A n c)).put (some 48) (.slice A n c)).put (some 49) (.int .i64 n)).put (some 44) (fm C S b bl)).put (some 47) (.slice (some ⟨wb,0,none⟩) n cw)).put (some 50) (.slice (some ⟨eb,0,none⟩) n n)).put (some 51) (.agg (rO C S b bl P par first wb n cw eb aH aH aH aH).toArray)).put (some 52) (.pointer (some ⟨db,0,none⟩))).put (some 10) (.pointer (some ⟨db,0,none⟩))/\
 DS ⟨w.heap.size,W.heap.size,w,db,wb,eb,b,bl,C,S,P,par,first,n,cw,λ_=>True⟩ W aH aH aH aH l
theorem Ej (n:Nat) (w:World) (hn:n<=100000):
 Calls Tryz.prog 123 #[.int .i64 n,.slice none 0 0] w λe w'=>∃eb,e= .returned (.tuple #[.slice (some ⟨eb,0,none⟩) n n,.int .i64 0])/\kh w' eb n/\Below w.heap.size w w':=by
 have b:=run_make_row' (P:=Tryz.prog) 26 4 (.bool false) 1 Tryz.underlying26 gU rfl .i64 .i64 n oO oO;go_enter Tryz.func123,Tryz.ntmps123;go_wp2;clear b;refine wp_loop_rounds 1 ?_;rw[rounds_succ];go_wp2;go_ret2
 refine⟨_,rfl,⟨by simp,λi a=>?_⟩,ax _ _⟩;rw[World.cell?_alloc_at _ _ _ _ rfl];unfold madeCells;rw[Array.getElem?_map,Array.getElem?_range,if_pos (by simpa using a)];simp[Nat.mod_one]
def J4 {C S P:Nat} (a:VF C S P) (b:List Nat) (n:Nat) (w w':World) (v:Value) (L:Nat):Prop:=∃q:List Nat,aq w' v (zl q)/\aj S q/\cG q/\1<=q.length/\q.length<=n+1/\iK a (co a b) n (co a q) L/\Below w.heap.size w w'
theorem flocator_any (C S P:Nat) (j:List Nat) (A:Option Addr) (n di:Nat) (w:World) (f:VF C S P) (hl:aj S j) (hn:n=j.length) (e9:n<=4094) (b7:RD w A (zl j)):
 Calls Tryz.prog 171 #[aN C S P,.slice A n di] w λe w'=>∃v L,e= .returned (.tuple #[v,.int .i64 ((L:Nat):Int)])/\J4 f j n w w' v L:=by
 have o:=Lib.hid f;have b8:=Lib.hid hl;have b9:=Lib.hid hn;have ca:=Lib.hid (b7.alloc (dS C S P));have et:Hid (dt f j n 0 [1] [1] 0 1 1):=dt.start f j n;obtain⟨l,N⟩:∃l,l=w.alloc (dS C S P):=⟨_,rfl⟩;have bo:Hid (an l w.heap.size (jS C S P)):=by rw[N];exact an.new _ _ _ _ rfl
 have cq:Hid (Below w.heap.size w l):=by rw[N];exact ax _ _
 have al:Hid (aq ((l.alloc (.cells #[.int .i64 1] 3)).alloc (.cells #[.int .i64 1] 3)) (.slice (some ⟨w.heap.size+1,0,none⟩) 1 1) (zl [1])):=(aq.lit _ [1] 3 _ 1 (by rw[N];simp) rfl oO).below (ax _ _);have am:Hid (aq ((l.alloc (.cells #[.int .i64 1] 3)).alloc (.cells #[.int .i64 1] 3)) (.slice (some ⟨w.heap.size+1+1,0,none⟩) 1 1) (zl [1])):=aq.lit _ [1] 3 _ 1 (by rw[N];simp) rfl oO;have bz:Hid (Below l.heap.size l ((l.alloc (.cells #[.int .i64 1] 3)).alloc (.cells #[.int .i64 1] 3))):=ah (ax _ _) _;rw[<-N]at ca;clear hl hn b7;go_enter Tryz.func171,Tryz.ntmps171;go_wp2;rw[<-N];obtain⟨H,cr⟩:∃H,H=w.heap.size:=⟨_,rfl⟩;have d5:Hid (w.heap.size<=l.heap.size):=cq.out.size;rw[<-cr]at bo al am⊢;clear N cr;generalize(l.alloc (.cells #[.int .i64 1] 3)).alloc (.cells #[.int .i64 1] 3)=ex at*;go_loopw [6,7,8,9,10,11] (λV dl ds dv dx K wr=>∃(k:Nat) (a c:List Nat) (L m b:Nat) (B J:Option Addr) (c1 M:Nat),k<=n/\L<=8000/\m<=8000/\K= .int .i64 k/\ds= .int .i64 L/\dv= .int .i64 m/\dx= .int .i64 b/\V= .slice B a.length c1/\dl= .slice J c.length M/\Hid (dt f j n k a c L m b)/\Hid (aq wr (.slice B a.length c1) (zl a))/\Hid (aq wr (.slice J c.length M) (zl c))/\Hid (Below l.heap.size l wr)) (λ_ _ _ _ _ K _=>n-(intOf K).toNat)
 case atStart=>exact⟨0,[1],[1],0,1,1,_,_,1,1,Nat.zero_le _,by omega,by omega,rfl,rfl,rfl,rfl,rfl,rfl,et.out,al.out,am.out,bz.out⟩
 case round=>
  obtain⟨k,a,c,L,m,b,B,J,c1,M,ey,d6,d7,rfl,rfl,rfl,rfl,rfl,rfl,g,bb,b1,hB⟩:=hrel;obtain⟨t,ap⟩:∃t,t=a.length:=⟨_,rfl⟩;obtain⟨X,bd⟩:∃X,X=c.length:=⟨_,rfl⟩;have fx:t<=k+1:=by rw[ap];exact g.out.lC
  have fz:X+m<=k+2:=by rw[bd];exact g.out.lB
  have bi:1<=t:=by rw[ap];exact(dt.c1 f g.out).1
  have fb:L<=k:=g.out.I.I.ln;have u:=Lib.hid ap;have Q:=Lib.hid bd;rw[<-ap]at bb⊢;rw[<-bd]at b1⊢;have be:Hid (RD wr B (zl a)):=by
   obtain⟨cb,ce,e,-,-,bq⟩:=bb.out;injection e with e1 e2 e3;rw[e1];exact bq
  have d8:Hid (RD wr J (zl c)):=by
   obtain⟨cb,ce,e,-,-,bq⟩:=b1.out;injection e with e1 e2 e3;rw[e1];exact bq
  have c4:t<=c1/\c1<=maxLen:=by
   obtain⟨cb,ce,e,cg,dy,-⟩:=bb.out;injection e with e1 e2 e3;rw[e3];rw[<-e2]at cg;exact⟨cg,dy⟩
  have d9:=Lib.hid c4;clear ap bd c4 d6 d7;by_cases ea:k<n
  ·go_wp2;obtain⟨a6,rfl⟩:∃a6:World,a6=wr:=⟨_,rfl⟩;go_loopw [12,13] (λd0 K wr=>∃q d:Nat,q<=L+1/\K= .int .i64 q/\d0= .int .i64 d/\Hid (d=jU S P (eQ S P a j k) q)/\Hid (Below a6.heap.size a6 wr)) (λ_ K _=>L+1-(intOf K).toNat)
   case atStart=>exact⟨0,0,by omega,rfl,rfl,rfl,Below.refl _ _⟩
   case round=>
    obtain⟨q,d,fc,rfl,rfl,a7,D⟩:=hrel;have Y:Hid (d<S):=by show _<_;rw[a7.out];exact p7 o.out _ (l7 o.out a j k) q
    by_cases f0:q<=L
    ·obtain⟨y,a8⟩:∃y,y=j.getD (k-q) 0:=⟨_,rfl⟩;have d1:Hid (a.getD q 0<S):=g.out.hC q;have d2:Hid (y<S):=by show _<_;rw[a8];exact b8.out _
     have ec:Hid (aT S P d (au S P (a.getD q 0) y)=jU S P (eQ S P a j k) (q+1)):=by
      show _=aT S P (jU S P (eQ S P a j k) q) (eQ S P a j k q);rw[<-a7.out];unfold eQ;rw[if_pos oO,a8]
     have ed:Hid (∀W,af wr W->Calls Tryz.prog 211 #[.slice B t c1,.int .i64 q] W λe w'=>e= .returned (.int .i64 ((a.getD q 0:Nat):Int))/\Below W.heap.size W w'):=λW E=>(xk a t q u.out B c1 W ((be.out.below D.out).below E)).mono λe w' h=>⟨h.1,by rw[h.2];exact Below.refl _ _⟩;obtain⟨ef,rfl,c9,c5⟩:=((ca.out.below hB.out).below D.out) (by rw[ak,<-b9.out];omega);have F:Hid (∀W,af wr W->(W.cell? ⟨H,0,none⟩=some (.int .i64 C)/\W.cell? ⟨H,1,none⟩=some (.int .i64 S)/\W.cell? ⟨H,2,none⟩=some (.int .i64 P))/\W.cell? (ef.add (k-q))=some (.int .i64 (y:Int))):=by
      show∀W,_;intro W E;refine⟨eA (((bo.out.below hB.out).below D.out).below E),?_⟩;rw[E.cell (by rw[aI];exact c9),c5 (k-q) (by rw[ak,<-b9.out];omega),bw,a8]
     obtain⟨z,ch⟩:∃z,z=k-q:=⟨_,rfl⟩;rw[<-ch]at F;have fd:IntKind.i64.wrap ((k:Int)-q)=(z:Int):=by rw[aE _ oO oO];omega
     have eh:z<n:=oO;generalize a.getD q 0=x at*;clear a8 ch c9 c5;go_wp2;refine bj (S:=af wr) 14 oK oK (ai (Below.refl _ _)) ?_;simp only[List.take_succ_cons,List.take_zero,List.drop_succ_cons,List.drop_zero]
     repeat refine kO F.out ?_
     refine kX (λW E=>ed.out W E) ?_
     repeat refine kO F.out ?_
     refine kX (λW E=>iy C S P x y W o.out d1.out d2.out) ?_
     repeat refine kO F.out ?_
     refine kX (λW E=>wa C S P d (au S P x y) W o.out Y.out (aO o.out _ _)) ?_
     repeat refine kO F.out ?_
     refine bR ?_;intro ez cs;have bz:=Lib.hid cs;clear cs;go_wp2;exact⟨⟨q+1,_,by omega,by go_num,rfl,ec.out,aa D.out bz.out⟩,by simp[intOf];omega⟩
    ·have T:Hid (aA f d=conv (co f a) (co f j) k):=by
      show _=_;rw[a7.out];exact uH f g.out.hC b8.out oO g.out.I.I.cs (.inl oO)
     have U:Hid (Below l.heap.size l wr):=hB.out.trans (D.out.mono hB.out.size);have al:=Lib.hid (bb.out.below D.out);have am:=Lib.hid (b1.out.below D.out);have c6:=Lib.hid (be.out.below D.out);have c7:=Lib.hid (d8.out.below D.out);clear a7 D;by_cases cv:d=0
     ·subst cv;have av:Hid (dt f j n (k+1) a c L (m+1) b):=dt.skip f g.out (by rw[<-T.out,aZ]);clear T;go_wp2;exact⟨⟨k+1,a,c,L,m+1,b,B,J,c1,M,by omega,by omega,by omega,by go_num,rfl,by go_num,rfl,by rw[u.out],by rw[Q.out],av.out,by rw[<-u.out];exact al.out,by rw[<-Q.out];exact am.out,U.out⟩,by simp[intOf];omega⟩
     ·have d3:((d:Int)==0)=false:=by rw[beq_eq_false_iff_ne];omega
      obtain⟨r,bs⟩:∃r,r=au S P d (bE S P b):=⟨_,rfl⟩;have ci:Hid (r<S):=by show _<_;rw[bs];exact aO o.out _ _
      have bf:=Lib.hid bs;have fn:b≠0:=dt.b0 f g.out;have cx:Hid (b<S):=g.out.hb;have F:Hid (∀W,af wr W->(W.cell? ⟨H,0,none⟩=some (.int .i64 C)/\W.cell? ⟨H,1,none⟩=some (.int .i64 S)/\W.cell? ⟨H,2,none⟩=some (.int .i64 P))):=by
       show∀W,_;intro W E;exact eA ((bo.out.below U.out).below E)
      clear bs;by_cases el:2* L<=k
      ·obtain⟨Z,cy⟩:∃Z,Z=k+1-L:=⟨_,rfl⟩;have fo:(k:Int)+1-(L:Int)=(Z:Int):=oO;have av:Hid (dt f j n (k+1) (bT S P a c m r c.length) a Z 1 d):=by
        show dt _ _ _ _ _ _ _ _ _;rw[cy,bf.out];exact dt.grow f g.out ea Y.out cv T.out el
       have d4:decide (2* (L:Int)<=(k:Int))=true:=by simp;omega
       clear T cy;go_wp2;refine yO (af wr) [1,2,3,4,5,6,7,10,0,8,9,11,0,12] (ai (Below.refl _ _)) ?_
       repeat refine zO F.out ?_
       refine zZ ?_;refine(oF C S P b _ o.out cx.out).mono ?_;rintro e bt ⟨rfl,a0⟩;have a1:Hid (af wr bt):=(ai (Below.refl _ _)).trans a0;clear a0;have b2:Hid (bE S P b<S):=fq o.out;refine⟨_,rfl,a1.out,jO ?_⟩;refine zZ ?_;refine(iy C S P d (bE S P b) _ o.out Y.out b2.out).mono ?_;rintro e ab ⟨rfl,a2⟩;rw[<-bf.out];have G:Hid (af wr ab):=aa a1.out a2;clear a2;refine⟨_,rfl,G.out,jO ?_⟩;refine zZ ?_;refine(yu C S P a c B J t X c1 M r m ab o.out g.out.hC g.out.hB u.out Q.out bi oO oO ci.out (c6.out.below G.out) (c7.out.below G.out)).mono ?_;rintro e ac ⟨v4,rfl,a3,a4⟩
       obtain⟨p,s,rfl,a5⟩:∃p s,v4= .slice p (bT S P a c m r c.length).length s/\aq ac (.slice p (bT S P a c m r c.length).length s) (zl (bT S P a c m r c.length)):=by
        have ad:=a3;obtain⟨p,s,e,-⟩:=aq.nat ad;exact⟨p,s,e,by rw[<-e];exact ad⟩
       have O:Hid (af wr ac):=aa G.out a4;have b3:=Lib.hid a5;clear a4 a3 a5;generalize bT S P a c m r c.length=bv at*;refine⟨_,rfl,O.out,jO ?_⟩
       repeat refine zO F.out ?_
       refine ag ?_;go_wp2;exact⟨⟨k+1,bv,a,Z,1,d,p,B,s,c1,by omega,by omega,by omega,by go_num,by go_num,rfl,rfl,rfl,by rw[u.out],av.out,b3.out,by rw[<-u.out];exact al.out.below O.out,U.out.trans (O.out.mono U.out.size)⟩,by simp[intOf];omega⟩
      ·have av:Hid (dt f j n (k+1) (bT S P a c m r c.length) c L (m+1) b):=by
        show dt _ _ _ _ _ _ _ _ _;rw[bf.out];exact dt.stay f g.out Y.out T.out oO
       have d4:decide (2* (L:Int)<=(k:Int))=false:=by simp;omega
       clear T;go_wp2;refine yO (af wr) [1,2,3,4,5,6,7,10,0,8,9,11,0,12] (ai (Below.refl _ _)) ?_
       repeat refine zO F.out ?_
       refine zZ ?_;refine(oF C S P b _ o.out cx.out).mono ?_;rintro e bt ⟨rfl,a0⟩;have a1:Hid (af wr bt):=(ai (Below.refl _ _)).trans a0;clear a0;have b2:Hid (bE S P b<S):=fq o.out;refine⟨_,rfl,a1.out,jO ?_⟩;refine zZ ?_;refine(iy C S P d (bE S P b) _ o.out Y.out b2.out).mono ?_;rintro e ab ⟨rfl,a2⟩;rw[<-bf.out];have G:Hid (af wr ab):=aa a1.out a2;clear a2;refine⟨_,rfl,G.out,jO ?_⟩;refine zZ ?_;refine(yu C S P a c B J t X c1 M r m ab o.out g.out.hC g.out.hB u.out Q.out bi oO oO ci.out (c6.out.below G.out) (c7.out.below G.out)).mono ?_;rintro e ac ⟨v4,rfl,a3,a4⟩
       obtain⟨p,s,rfl,a5⟩:∃p s,v4= .slice p (bT S P a c m r c.length).length s/\aq ac (.slice p (bT S P a c m r c.length).length s) (zl (bT S P a c m r c.length)):=by
        have ad:=a3;obtain⟨p,s,e,-⟩:=aq.nat ad;exact⟨p,s,e,by rw[<-e];exact ad⟩
       have O:Hid (af wr ac):=aa G.out a4;have b3:=Lib.hid a5;clear a4 a3 a5;generalize bT S P a c m r c.length=bv at*;refine⟨_,rfl,O.out,jO ?_⟩
       repeat refine zO F.out ?_
       refine ag ?_;go_wp2;exact⟨⟨k+1,bv,c,L,m+1,b,p,J,s,M,by omega,by omega,by omega,by go_num,rfl,by go_num,rfl,rfl,by rw[Q.out],av.out,b3.out,by rw[<-Q.out];exact am.out.below O.out,U.out.trans (O.out.mono U.out.size)⟩,by simp[intOf];omega⟩
  ·obtain rfl:k=n:=oO;obtain⟨f1,c8⟩:=d9.out;have em:Hid (a.getD 0 0≠0):=(dt.c1 f g.out).2;have b6:Hid (1<=tl a a.length):=Bg em.out _ (by rw[<-u.out];exact bi);go_wp2;obtain⟨bx,rfl,f2,en⟩:=be.out (by rw[ak,<-u.out];omega);go_loop [6] (λV=>∃e:Nat,1<=e/\e<=t/\V= .slice (some bx) e c1/\Hid (tl a e=tl a a.length)) (λV=>match V with|.slice _ n _=>n|_=>0)
   case atStart=>exact⟨t,bi,Nat.le_refl _,rfl,by show _=_;rw[u.out]⟩
   case round=>
    obtain⟨e,fr,e0,rfl,a9⟩:=hrel;obtain⟨z,rfl⟩:∃z,e=z+1:=⟨e-1,by omega⟩;have ck:=en z (by rw[ak,<-u.out];omega);rw[bw]at ck;obtain⟨x,b4⟩:∃x,x=a.getD z 0:=⟨_,rfl⟩;rw[<-b4]at ck;have c2:=Lib.hid b4;have fv:((z+1:Nat):Int)-1=(z:Int):=oO;have eh:z<t:=oO;have fw:z<=c1:=oO;clear b4;by_cases b5:x=0
    ·subst b5;have c3:Hid (tl a z=tl a a.length):=by
      have h:=a9.out;have e1:tl a (z+1)=if a.getD z 0=0 then tl a z else z+1:=rfl
      rw[e1,if_pos c2.out.symm]at h;exact h
     have eq:1<=z:=by
      rcases Nat.eq_zero_or_pos z with h|h
      ·subst h;have:=c3.out;rw[<-this]at b6;exact absurd b6.out (by show¬1<=0;omega)
      ·exact h
     clear a9;go_wp2;exact⟨⟨z,eq,by omega,rfl,c3.out⟩,by simp⟩
    ·have d3:((x:Int)==0)=false:=by rw[beq_eq_false_iff_ne];omega
     have cp:Hid (tl a a.length=z+1):=by
      show _=_;have e1:tl a (z+1)=if a.getD z 0=0 then tl a z else z+1:=rfl
      rw[<-a9.out,e1,if_neg (by rw[<-c2.out];exact b5)]
     have er:Hid (dJ a=a.take (z+1)):=by show _=_;unfold dJ;rw[cp.out]
     have ew:Hid (aq wr (.slice (some bx) (z+1) c1) (zl (dJ a))):=by
      show aq _ _ _;rw[er.out];have hl:(zl (a.take (z+1))).length=z+1:=by rw[ak,List.length_take,<-u.out];omega
      refine⟨some bx,c1,by rw[hl],by rw[hl];omega,c8,?_⟩;have:=be.out.take (z+1);rwa[show(zl a).take (z+1)=zl (a.take (z+1))from by unfold zl;rw[List.map_take]]at this
     clear a9 b5 c8;go_wp2;go_ret2
     refine⟨_,L,rfl,dJ a,ew.out,jl g.out.hC,kz _,?_,?_,?_,cq.out.trans (hB.out.mono d5.out)⟩
     ·rw[iZ];exact b6.out
     ·rw[iZ,cp.out];omega
     ·have es:co f (dJ a)=co f a:=funext λi=>pQ f a i;rw[es];exact g.out.I.LB f
def e8 (s p:Nat) (xs:List Nat):Nat->List Nat
 |0=>[1]
 |k+1=>cE s p (e8 s p xs k) [1,aM s p 0 (xs.getD k 0)] (k+2) (k+1) 0
theorem pc (s p:Nat) (xs:List Nat):∀k,(e8 s p xs k).length=k+1
 |0=>rfl
 |k+1=>eo _ _ _ _ _ _ _
section
open Fl
variable {c s p : Nat} (h : VF c s p)
include h
theorem wX (xs:List Nat):∀k,aj s (e8 s p xs k)
 |0=>nG h
 |k+1=>j7 h _ _ _ _ _
theorem L9 {x:Nat} (a:x<s):co h [1,aM s p 0 x]=iU (aA h x):=by
 funext i
 match i with
 |0=>exact ik h
 |1=>
  show aA h (aM s p 0 x)=-aA h x;rw[gO h (by have:=h.aG;omega) a,aZ,yB]
 |i+2=>
  rw[dL h _ (i+2) oS];unfold iU;rw[if_neg oO,if_neg oO]
theorem DC {xs:List Nat} (b:aj s xs):∀k,k<=xs.length->∀m,co h (e8 s p xs k) m=nS ((xs.take k).map (aA h)) m
 |0,_,m=>by
  show co h [1] m=ff 1 m;rw[xf]
 |k+1,g,m=>by
  have e:=DC b k oO;have e1:xs.take (k+1)=xs.take k++[xs.getD k 0]:=by
   rw[List.take_add_one];have:xs[k]?=some (xs.getD k 0):=by simp[List.getD,show k<xs.length from by omega]
   rw[this];rfl
  rw[e1,List.map_append];show _=nS ((xs.take k).map (aA h)++aA h (xs.getD k 0)::[]) m;rw[sO,List.append_nil];by_cases f:m<k+2
  ·have d:=p6 h (wX h xs k) (uR h (a:=1) (by have:=h.aG;omega) (eI h (x:=0) (y:=xs.getD k 0) (by have:=h.aG;omega) (b k))) f;rw[pc]at d;show co h (cE s p (e8 s p xs k) [1,aM s p 0 (xs.getD k 0)] (k+2) (k+1) 0) m=_;rw[d,L9 h (b k),gf];exact dK (λ_ _=>rfl) (λj _=>e j)
  ·rw[dL h _ m (by rw[pc];omega)];refine((mj (aA h (xs.getD k 0))).conv (pH ((xs.take k).map (aA h))) m ?_).symm;rw[List.length_map,List.length_take];omega
end
def wdN (s p first:Nat) (xs:List Nat) (i:Nat):Nat->Nat
 |0=>fpowN s p (xs.getD i 0) first
 |k+1=>if k=i then wdN s p first xs i k else au s p (wdN s p first xs i k) (aM s p 1 (au s p (xs.getD k 0) (bE s p (xs.getD i 0))))
def wH (s p first:Nat) (a xs:List Nat) (i:Nat):Nat:=au s p (hornN s p (bE s p (xs.getD i 0)) a) (bE s p (wdN s p first xs i xs.length))
def gn (s p first par:Nat) (a xs:List Nat) (k:Nat):List Nat:=(List.range k).map (wH s p first (cE s p a (e8 s p xs xs.length) par par 0) xs)
theorem Cd (s p first par:Nat) (a xs:List Nat) (k:Nat):(gn s p first par a xs k).length=k:=by unfold gn;simp
theorem Fc (s p first par:Nat) (a xs:List Nat) (k:Nat):gn s p first par a xs (k+1)=gn s p first par a xs k++[wH s p first (cE s p a (e8 s p xs xs.length) par par 0) xs k]:=by
 unfold gn;rw[List.range_succ,List.map_append];rfl
theorem ma (xs:List Nat) {k:Nat} (a:k<xs.length):xs.take (k+1)=xs.take k++[xs.getD k 0]:=by
 rw[List.take_add_one];have:xs[k]?=some (xs.getD k 0):=by simp[List.getD,a]
 rw[this];rfl
section
open Fl
variable {c s p : Nat} (h : VF c s p)
include h
theorem vM {x:Nat} (a:x<s) (b:x≠0):aA h (bE s p x)=dM (aA h x):=by
 have f:=sN h a b;have d:aA h x≠0:=λe=>b ((kt h a).1 e);apply fs d;rw[AG d,bS,f]
omit h in
theorem xo {K:Type} [Fl K] (y:K):∀l m:List K,ki y (l++m)=ki y l* ki y m
 |[],m=>(dB _).symm
 |X::l,m=>by
  show(1-X* y)* ki y (l++m)=(1-X* y)* ki y l* ki y m;rw[xo y l m,bY]
theorem Ef {first:Nat} {xs:List Nat} (b:aj s xs) (i k:Nat):wdN s p first xs i k<s:=by
 induction k with
 |zero=>exact lZ h _ _
 |succ k a=>unfold wdN;split;exact a;exact aO h _ _
theorem Gs {first:Nat} {xs:List Nat} (a:aj s xs) {i:Nat} (j:i<xs.length) (b:xs.getD i 0≠0):∀k,k<=xs.length->
 aA h (wdN s p first xs i k)=aA h (xs.getD i 0)^first* ki (dM (aA h (xs.getD i 0))) (((xs.take k).eraseIdx i).map (aA h))
 |0,_=>by
  show aA h (fpowN s p (xs.getD i 0) first)=_;rw[s6 h (a i)];simp only[List.take_zero,List.eraseIdx_nil,List.map_nil];show _=_* (1:KF h);rw[eD]
 |k+1,l=>by
  have d:=Gs (first:=first) a j b k oO;rw[ma xs oO];unfold wdN;have f:(1:Nat)<s:=by have:=h.aG;omega
  by_cases e:k=i
  ·subst e;rw[if_pos rfl,d];congr 2;rw[List.eraseIdx_of_length_le (by rw[List.length_take];omega),List.eraseIdx_append_of_length_le (by rw[List.length_take];omega),List.length_take,show k-min k xs.length=0 from by omega];simp
  ·rw[if_neg e,dP h (Ef h a _ _) (eI h f (aO h _ _)),gO h f (aO h _ _),dP h (a k) (fq h),ik,vM h (a i) b,d];rcases Nat.lt_or_ge k i with g|g
   ·rw[List.eraseIdx_of_length_le (by rw[List.length_take];omega),List.eraseIdx_append_of_length_le (by rw[List.length_take];omega),List.length_take,show i-min k xs.length=(i-k-1)+1 from by omega];simp only[List.eraseIdx_cons_succ,List.eraseIdx_nil,List.map_append,List.map_cons,List.map_nil];rw[xo];show _=_* (_* ((1-_* _)* 1));rw[eD,bY]
   ·rw[List.eraseIdx_append_of_lt_length (by rw[List.length_take];omega),List.map_append,xo];show _=_* (_* ((1-_* _)* 1));rw[eD,bY]
noncomputable def gl (s p n:Nat) (P:List Nat):List Nat:=P.map λi=>bV s p (n-1-i)
omit h in
theorem qm (s p n:Nat) (P:List Nat):(gl s p n P).length=P.length:=by unfold gl;simp
omit h in
theorem zS (s p n:Nat) (P:List Nat) {j:Nat} (hj:j<P.length):(gl s p n P).getD j 0=bV s p (n-1-P.getD j 0):=by
 unfold gl;simp[List.getD,hj]
theorem F4 (n:Nat) (P:List Nat):aj s (gl s p n P):=λj=>by
 rcases Nat.lt_or_ge j P.length with g|g
 ·rw[zS _ _ _ _ g];exact dD h _
 ·rw[iW (by rw[qm];omega)];have:=h.aG;omega
theorem Fg (j:Nat):bV s p j≠0:=λe=>by
 have:=jG h j;rw[e,aZ]at this;exact iu (uo h) j this.symm
theorem Jm {par first:Nat} {w v:List Nat} (b:aj s w) (hn:w.length<=s-1) (d:Fix s p par first w v) {j:Nat} (g:j<(bP w v).length):
 aM s p (w.getD ((bP w v).getD j 0) 0) (wH s p first (cE s p (bp s p par first w) (e8 s p (gl s p w.length (bP w v)) (gl s p w.length (bP w v)).length) par par 0) (gl s p w.length (bP w v)) j)=v.getD ((bP w v).getD j 0) 0:=by
 obtain⟨xs,f⟩:∃xs,xs=gl s p w.length (bP w v):=⟨_,rfl⟩;obtain⟨i,o⟩:∃i,i=(bP w v).getD j 0:=⟨_,rfl⟩;rw[<-f,<-o];have q:xs.length=(bP w v).length:=by rw[f,qm]
 have l:aj s xs:=by rw[f];exact F4 h _ _
 have D:xs.getD j 0=bV s p (w.length-1-i):=by rw[f,o];exact zS _ _ _ _ g
 have F:xs.getD j 0≠0:=by rw[D];exact Fg h _
 have u:aA h (xs.getD j 0)=loc h w.length i:=by rw[D,jG];rfl
 have x:=mU h hn (first:=first) (err h w v);have G:(fV h w.length first (err h w v) w.length).map (·.2)=xs.map (aA h):=by
  rw[f];unfold fV gl;rw[j2 h b d.lt,List.map_map,List.map_map];apply List.map_congr_left;intro a _;show loc h w.length a=aA h (bV s p (w.length-1-a));rw[jG];rfl
 have K:(fV h w.length first (err h w v) w.length).length=xs.length:=by rw[ky,j2 h b d.lt,q]
 have ac:j<(fV h w.length first (err h w v) w.length).length:=by rw[K,q];exact g
 have H:(fV h w.length first (err h w v) w.length)[j]=(err h w v i* loc h w.length i^first,loc h w.length i):=by
  have e1:(bP w v)[j]'g=i:=by rw[o];simp[List.getD,g]
  simp only[fV,j2 h b d.lt,List.getElem_map,e1]
 generalize P:fV h w.length first (err h w v) w.length=E at*
 have n:E=E.take j++E[j]::E.drop (j+1):=by rw[List.getElem_cons_drop,List.take_append_drop]
 have S:∀m,co h (e8 s p xs xs.length) m=lam E m:=λm=>by
  rw[DC h l xs.length (Nat.le_refl _) m,List.take_length,<-G];rfl
 have T:(bp s p par first w).length=par:=by unfold bp;simp
 have U:=pU h (par:=par) (first:=first) b;have V:∀m,m<par->co h (cE s p (bp s p par first w) (e8 s p xs xs.length) par par 0) m=conv (lam E) (eu E) m:=λm L=>by
  have y:=p6 h U (wX h xs xs.length) L;rw[T]at y;rw[y,gf];refine dK (λk _=>S k) λk ab=>?_;rw[te h oO,qu h b d oO,P]
 have ad:=d.df;have W:aA h (hornN s p (bE s p (xs.getD j 0)) (cE s p (bp s p par first w) (e8 s p xs xs.length) par par 0))=err h w v i* loc h w.length i^first* ki (dM (loc h w.length i)) ((E.take j++E.drop (j+1)).map (·.2)):=by
  rw[p9 h (fq h) _ (ek (j7 h _ _ _ _ _)),vM h (l j) F,u,eo,fA V];have z:=wQ (s:=E.take j) (t:=E.drop (j+1)) (e:=E[j]) (by rw[<-n];exact x) (N:=par) (by rw[<-n,K,q];omega);rw[<-n,H]at z;exact z
 have r:aA h (wdN s p first xs j xs.length)=loc h w.length i^first* ki (dM (loc h w.length i)) ((E.take j++E.drop (j+1)).map (·.2)):=by
  rw[Gs h l oO F xs.length (Nat.le_refl _),u,List.take_length];congr 2;rw[List.eraseIdx_eq_take_drop_succ,List.map_append,List.map_append,List.map_take,List.map_drop,List.map_take,List.map_drop,G]
 have A:ki (dM (loc h w.length i)) ((E.take j++E.drop (j+1)).map (·.2))≠0:=by
  have M:km (E.take j++E[j]::E.drop (j+1)):=by rw[<-n];exact x
  have B:=M.Bu;rw[H]at B;exact B
 have X:=Ef h (first:=first) l j xs.length;have Y:wdN s p first xs j xs.length≠0:=λe=>by
  rw[e,aZ]at r;exact jA (iu (kp h _ _) _) A r.symm
 have Z:aA h (wH s p first (cE s p (bp s p par first w) (e8 s p xs xs.length) par par 0) xs j)=err h w v i:=by
  unfold wH;rw[dP h (gW h _ _ (ek (j7 h _ _ _ _ _))) (fq h),W,vM h X Y,bY,r,bY];generalize ki (dM (loc h w.length i)) ((E.take j++E.drop (j+1)).map (·.2))=Q at*;have O:=jA (iu (kp h w.length i) first) A;have C:=fK O;rw[bY]at C;rw[C,eD]
 have J:wH s p first (cE s p (bp s p par first w) (e8 s p xs xs.length) par par 0) xs j<s:=aO h _ _
 refine fy h (eI h (b i) J) (d.lt i) ?_;rw[gO h (b i) J,Z];show co h w i-(co h w i-co h v i)=co h v i;rw[de,de,gV,jZ,<-fP,kF,bO]
end
end
end Go.Proofs.YtmnlkganmgcpbaaGreatDoor
