import Derived.Test.YtmnlkganmgcpbaaGreatDoorQk14
set_option maxRecDepth 100000
set_option maxHeartbeats 4000000
set_option linter.unusedVariables false
set_option linter.unusedSectionVars false
set_option linter.unusedSimpArgs false
namespace Go.Proofs.YtmnlkganmgcpbaaGreatDoor
section
open Go.RowKit
theorem Dk (C S P:Nat) (a b:List Nat) (v u:Value) (w:World) (h:VF C S P) (f:ao S a) (g:dA a) (i:a.length<=4097) (hb:ao S b) (j:dA b) (k:b.length<=4097) (o:b≠[]) (l:aA w v (zl a)) (m:aA w u (zl b)):
 Calls Tryz.prog 115 #[cu C S P,v,u] w λe w'=>∃x y,e= .returned (.tuple #[x,y,.int .i64 0])/\aA w' y (zl (eN S P a b))/\Below w.heap.size w w':=by
 obtain⟨q,rfl,hq,p⟩:=l.sl;obtain⟨r,rfl,n,s⟩:=m.sl;have:=De C S P q r w h.tU hq n;rw[p,s]at this;refine this.mono ?_;rintro e w' ⟨x,y,c,z,d,t⟩;have e1:kA C S P (zl a) (zl b)=(zl (l8 S P a b),zl (eN S P a b),0):=by
  unfold kA;rw[show oV C S P (zl a)=true from by unfold oV;rw[kt h,Es f i g];rfl,show oV C S P (zl b)=true from by unfold oV;rw[kt h,Es hb k j];rfl,rU,rU,if_neg (λe=>o (F8 e))];rfl
 rw[e1]at c d;exact⟨x,y,c,d,t⟩
theorem Gd (C S P x:Nat) (w:World) (h:VF C S P) (b:x<S):
 Calls Tryz.prog 117 #[cu C S P,.int .i64 0,.int .i64 x] w λe w'=>e= .returned (.tuple #[.int .i64 ((cF S P 0 x:Nat):Int),.int .i64 0])/\Below w.heap.size w w':=by
 have:=L6 C S P 0 x w (by have:=h.le;omega) h.tU;refine this.mono λe w' a=>⟨?_,a.2⟩;rw[a.1];have e1:BE C S P 0 x=(((cF S P 0 x:Nat):Int),0):=by
  unfold BE;have:=gB h (A:=0) (B:=x) (by have:=h.aP;omega) b;rw[if_pos (by simpa using this)];simp
 rw[e1]
theorem uM (C S P par first:Nat) (data:List Nat) (m:Nat) (A:Option Addr) (M:Nat) (w:World) (h:fI C S P par first) (X:m=data.length) (hl:ao S data) (Y:1<=m) (O:m+par<=S-1) (Q:RD w A (zl data)):
 Calls Tryz.prog 62 #[dw C S P par first,.slice A m M] w (kY w (zl (gJ S P par first data),0)):=by
 obtain⟨de,b8,d1,d2,d3⟩:=info_parts dg;have g:=Lib.hid h;obtain⟨s3,dk⟩:=h.s3;have d4:=h.p1;have E:=rI w C S P par first
 have b4:Hid (Below w.heap.size w (w.alloc (kp C S P par first))):=(Below.refl _ _).alloc (Nat.le_refl _) _;obtain⟨N,a0⟩:∃N,m+par=N:=⟨_,rfl⟩;have d5:(m:Int)+(par:Int)=(N:Int):=oO;have d6:N<=4095:=oO;have ci:m<=N:=oO;obtain⟨T,rfl,G,d⟩:=Q (by rw[aw];omega);have a1:=Lib.hid Q;have c9:=Lib.hid G;have U:=Lib.hid hl;have b:=Lib.hid X;have H:=Lib.hid a0;have b7:Hid (∀W,Calls Tryz.prog 113 #[dw C S P par first,.int .i64 N] W λe w'=>e= .returned (.bool true)/\Below W.heap.size W w'):=λW=>zT C S P par first N W oO oO
 have b5:Hid (∀W,af w W->Calls Tryz.prog 112 #[dw C S P par first,.slice (some T) m M] W λe w'=>e= .returned (.bool true)/\Below W.heap.size W w'):=λW l=>qX C S P par first data m (some T) M W h X hl oO (Q.below l)
 have ck:=run_make_row' (P:=Tryz.prog) 64 3 (.int .i64 0) 8 Tryz.underlying64 dg rfl .i64 .i64 N oO oO;have b9:((m:Int)==0)=false:=by rw[beq_eq_false_iff_ne];omega
 obtain⟨n,o,t,v,z⟩:=E.out _ (Below.refl _ _);clear h hl Q G d X a0 O;go_enter Tryz.func62,Tryz.ntmps62
 go_wp2_with(first
  |(go_at_call 112;refine(b5.out _ b4.out).mono ?_;rintro e dl ⟨rfl,a8⟩;have ab:=Lib.hid a8;clear a8 n o t v z;obtain⟨n,o,t,v,z⟩:=E.out _ ab.out)
  |(go_at_call 113;refine(b7.out _).mono ?_;rintro e dn ⟨rfl,a9⟩;have ac:=Lib.hid (ae ab.out a9);clear a9 n o t v z;obtain⟨n,o,t,v,z⟩:=E.out _ ac.out)
  |(go_at_call 114;refine(yD C S P par first _ g.out).mono ?_;rintro e c ⟨a2,rfl,bb,bd⟩;have be:=Lib.hid bb;have F:=Lib.hid (ae ac.out bd);clear bd bb n o t v z;obtain⟨n,o,t,v,z⟩:=E.out _ F.out))
 clear n o t v z ab ac b9;have bf:Hid (Below c.heap.size c (c.alloc (.cells (madeCells #[.int .i64 0] N) 3))/\bO (c.alloc (.cells (madeCells #[.int .i64 0] N) 3)) c.heap.size (sw N data 0)):=by
  rw[KH];exact⟨ax _ _,bO.made _ _ _ _ rfl⟩
 have bi:Hid (∀W,af c W->af w W):=λW l=>ae (ae b4.out F.out) l;go_loopw [51] (λB wr=>∃i:Nat,i<=m/\B= .int .i64 i/\Hid (Below c.heap.size c wr/\bO wr c.heap.size (sw N data i))) (λB _=>m-(intOf B).toNat)
 case atStart=>exact⟨0,Nat.zero_le _,rfl,bf⟩
 case round=>
  obtain⟨i,b8,rfl,f⟩:=hrel;by_cases co:i<m
  ·obtain⟨cp,e,G,d⟩:=(a1.out.below (bi.out _ f.out.1)) (by rw[aw,<-b.out];omega);cases e;have Z:=d i (by rw[aw,<-b.out];exact co);rw[cT]at Z;have K:Hid (_=_):=Jz N data i oO;obtain⟨r,J⟩:∃r,r=N-1-i:=⟨_,rfl⟩;have cq:(N:Int)-1-(i:Int)=(r:Int):=oO;have ad:r<N:=oO;rw[<-J]at K;obtain⟨c1,ca⟩:=f.out.2.2 r (by rw[rk];exact ad);generalize data.getD i 0=y at*;generalize al:(sw N data i).getD r 0=u at*;clear d J al G;go_wp2;exact⟨⟨i+1,by omega,by go_num,by rw[<-K.out];exact⟨f.out.1.setCell (Nat.le_refl _) _,f.out.2.set _ _⟩⟩,by simp[intOf];omega⟩
  ·have cs:i=m:=oO;subst cs;have cv:Hid (bO wr c.heap.size (dB par data)):=by
    have:=f.out.2;rw[<-H.out,b.out,Lf]at this;exact this
   have am:=Lib.hid (bi.out _ f.out.1);have cx:Hid (aA wr a2 (zl (iR S P first par))):=be.out.below f.out.1;have bo:N=(dB par data).length:=by rw[ma,<-b.out];exact H.out.symm
   have cN:=Lib.hid bo;have HC:Hid (∀W,af wr W->W.cell? ⟨w.heap.size,0,none⟩=some (.int .i64 C)/\W.cell? ⟨w.heap.size,1,none⟩=some (.int .i64 S)/\W.cell? ⟨w.heap.size,2,none⟩=some (.int .i64 P)):=by
    show∀W,_;intro W l;obtain⟨a3,Y,O,-⟩:=E.out _ ((F.out.trans (f.out.1.mono F.out.size)).trans (l.mono (Nat.le_trans F.out.size f.out.1.size)));exact⟨a3,Y,O⟩
   clear bo bf be F b7 b5 E;go_wp2;refine yO (af wr) [1,2,3,5,0,4,6,0,7,8,9,10,11,12,13] (ai (Below.refl _ _)) ?_
   repeat refine zO HC.out ?_
   refine zZ ?_;refine(CC (dB par data) N cN.out _ N _ oO (Nat.le_refl _) (cv.out.below (ai (Below.refl _ _))).rd).mono ?_;rintro e a4 ⟨cb,rfl,bq,bs⟩;have c2:=Lib.hid bq;have ap:Hid (af wr a4):=ae (ai (Below.refl _ _)) bs;clear bq bs;refine⟨_,rfl,ap.out,jO ?_⟩
   repeat refine zO HC.out ?_
   refine zZ ?_;refine(Dk C S P (dX (dB par data)) (iR S P first par) cb a2 a4 g.out.vf (jz (ng g.out.vf U.out)) (kH _) (by rw[mi];have:=ma par data;have:=KX (dB par data) (dB par data).length;have:=H.out;have:=b.out;omega) (tX g.out.vf first par) (.inr (by rw[fP,Nat.add_sub_cancel,yz];omega)) (by rw[fP];omega) (λe=>by have:=fP (s:=S) (p:=P) first par;rw[e]at this;simp at this) c2.out (cx.out.below ap.out)).mono ?_;rintro e a ⟨dp,ce,rfl,bt,bv⟩;have bx:Hid (aA a ce (zl (fw S P par first data))):=bt;have L:Hid (af wr a):=ae ap.out bv;clear bt bv;refine⟨_,rfl,L.out,jO ?_⟩
   repeat refine zO HC.out ?_
   refine ag ?_;obtain⟨ds,dv,rfl,-,-,bz⟩:=aA.nat bx.out;have c3:=Lib.hid bz;have b1:Hid ((fw S P par first data).length<=N):=by show _<=_;have:=kh g.out.vf (par:=par) (first:=first) U.out;have:=H.out;omega
   have c4:Hid (ao S (fw S P par first data)):=se g.out.vf U.out;have b6:Hid (oY S P N data (fw S P par first data) (fw S P par first data).length=gJ S P par first data):=by
    have:=LM g.out.vf (par:=par) (first:=first) U.out;rw[<-b.out,H.out]at this;exact this
   clear bz
   obtain⟨a5,c5,av,b2⟩:=IG a N i M T data b.out ci (by
    have a3:T.block<w.heap.size:=c9.out;have Y:=am.out.size;have O:=L.out.size
    omega) (by
    obtain⟨cp,e,-,d⟩:=(a1.out.below (ae am.out L.out)) (by rw[aw,<-b.out];omega);cases e
    exact d)
   rw[b.out,Ke S P N data (fw S P par first data) (by have:=b.out;omega)]at av;have c6:Hid (Below a.heap.size a a5/\bO a5 a.heap.size (oY S P N data (fw S P par first data) 0)):=⟨b2,av⟩;clear av b2;generalize c7:fw S P par first data=j at*
   obtain⟨q,hq⟩:∃q,q=j.length:=⟨_,rfl⟩;have a6:=Lib.hid hq;rw[<-hq]at b1 b6;have d7:q<=N:=b1.out;rw[<-hq];clear c7 hq bx;go_wp2;clear c5 ck;go_loopw [84] (λB wr=>∃k:Nat,k<=q/\B= .int .i64 k/\Hid (Below a.heap.size a wr/\bO wr a.heap.size (oY S P N data j k))) (λB _=>q-(intOf B).toNat)
   case atStart=>exact⟨0,Nat.zero_le _,rfl,c6⟩
   case round=>
    obtain⟨k,dx,rfl,D⟩:=hrel;by_cases da:k<q
    ·obtain⟨dy,rfl,G,d⟩:=(c3.out.below D.out.1) (by rw[aw,<-a6.out];omega);have Z:=d k (by rw[aw,<-a6.out];exact da);rw[cT]at Z;have K:Hid (_=_):=Jd S P N data j k oO;obtain⟨r,J⟩:∃r,r=N-1-k:=⟨_,rfl⟩;have cq:(N:Int)-1-(k:Int)=(r:Int):=oO;have ad:r<N:=oO;rw[<-J]at K;have ch:Hid (j.getD k 0<S):=c4.out k;obtain⟨dz,dE,d0⟩:=HC.out _ (ae L.out D.out.1);have dd:Hid (∀W,af wr W->W.cell? ⟨a.heap.size,r,none⟩=some (.int .i64 (((oY S P N data j k).getD r 0:Nat):Int))/\W.frozen? ⟨a.heap.size,r,none⟩=false):=by
      show∀W,_;intro W l;exact(D.out.2.below l).2 r (by rw[qS];exact ad)
     generalize j.getD k 0=x at*;generalize al:(oY S P N data j k).getD r 0=u at*;clear d J al G;go_wp2_with(go_at_call 117;refine(Gd C S P x _ g.out.vf ch.out).mono ?_;rintro e a7 ⟨rfl,V⟩;have b3:Hid (Below a.heap.size a a7/\bO a7 a.heap.size (oY S P N data j k)):=⟨ae D.out.1 V,D.out.2.below V⟩;obtain⟨c1,ca⟩:=dd.out _ V;clear V)
     exact⟨⟨k+1,by omega,by go_num,by rw[<-K.out];exact⟨b3.out.1.setCell (Nat.le_refl _) _,b3.out.2.set _ _⟩⟩,by simp[intOf];omega⟩
    ·have c8:k=q:=oO;subst c8;go_wp2;go_ret2
     refine kY.mk rfl ?_ (ae (ae am.out L.out) D.out.1);rw[<-b6.out];exact D.out.2.ints (qS _ _ _ _ _ _).symm (Nat.le_refl _) oM
theorem FM {a:Act} {d:Oper} {W:World} {s x:Operand} (k:d.op= .call {callee:= .builtin .append,args:=#[s,x],argTypes:=#[64,64]}) (A:Option Addr) (n c:Nat) (l:List Nat) (hs:a.eval s= .slice none 0 0) (m:a.eval x= .slice A n c)
 (hn:n=l.length) (v:1<=n) (J:n<=100000) (i:RD W A (zl l)):
 ∃wb cw b,(execOp a.eval d).run Tryz.prog W= .ok (.value (.slice (some ⟨wb,0,none⟩) n cw)) b/\bO b wb l/\W.heap.size<=wb/\n<=cw/\cw<=maxLen/\Below W.heap.size W b:=by
 obtain⟨o,p,w,y,z⟩:=info_parts dg
 obtain⟨C,b,B,f,hg,K⟩:=vm (P:=Tryz.prog) W W.heap.size 64 d.type 3 o _ Tryz.underlying64 p w y z rfl (.slice none 0 0) 0 [] (World.ownsRow_nil _ _ _ _) A n c (zl l) (by rw[aw];exact hn) i (λr=>by
  obtain⟨D,e,-⟩:=i (by rw[aw];omega)
  rw[r]at e;cases e) oO (Nat.le_refl _)
 rw[Nat.zero_add,List.nil_append]at f;rcases f.2 with⟨E,j⟩|⟨g,cap,L,rfl,j,F,t,u,G,H⟩
 ·omega
 ·refine⟨g,cap,b,?_,bO.cd f v,j,t,u,(Below.refl _ _).grown hg (Nat.le_refl _) (λq hq=>by cases hq)⟩;unfold execOp;simp only[k,resolve,invoke,builtin,Sem.run_bind,Sem.run_pure,Result.andThen_ok,List.map_toArray,List.map_cons,List.map_nil,hs,m,B]
theorem FN {a:Act} {d:Oper} {W:World} {l c:Operand} (e:d.op= .makeSlice 26 l c) (n:Nat) (hn:n<=100000) (hl:a.eval l= .int .i64 (n:Int)) (hc:a.eval c= .int .i64 (n:Int)):
 ∃b,(execOp a.eval d).run Tryz.prog W= .ok (.value (.slice (some ⟨W.heap.size,0,none⟩) n n)) b/\(W.heap.size<b.heap.size/\∀i,i<n->b.cell? ⟨W.heap.size,i,none⟩=some (.bool false))/\Below W.heap.size W b:=by
 have g:=run_make_row' (P:=Tryz.prog) 26 4 (.bool false) 1 Tryz.underlying26 gZ rfl .i64 .i64 n oO oO W;refine⟨W.alloc (.cells (madeCells #[.bool false] n) 4),?_,⟨?_,λi f=>?_⟩,ax _ _⟩
 ·unfold execOp;simp only[e,hl,hc,g,Sem.run_bind,Sem.run_pure,Result.andThen_ok]
 ·simp
 ·rw[World.cell?_alloc_at _ _ _ _ rfl];unfold madeCells;rw[Array.getElem?_map,Array.getElem?_range,if_pos (by simpa using f)];simp[Nat.mod_one]
theorem Hn (C S P par first a bl wb eb n cw:Nat):Tryz.prog.built 155 [(0,fs C S a bl),(1,dw C S P par first),(2,.slice (some ⟨wb,0,none⟩) n cw),(3,.slice (some ⟨eb,0,none⟩) n n)]=some (sS C S a bl P par first wb n cw eb bk bk bk bk).toArray:=by
 kernel_rfl
theorem p7 {a:Act} {c:Oper} {W:World} {x0 d e f:Operand} (g:c.op= .build 155 #[(0,x0),(1,d),(2,e),(3,f)]) {C S P par first b bl wb eb n cw:Nat}
 (i:a.eval x0=fs C S b bl) (j:a.eval d=dw C S P par first) (k:a.eval e= .slice (some ⟨wb,0,none⟩) n cw) (l:a.eval f= .slice (some ⟨eb,0,none⟩) n n):
 (execOp a.eval c).run Tryz.prog W= .ok (.value (.agg (sS C S b bl P par first wb n cw eb bk bk bk bk).toArray)) W:=by
 have m:=run_build (P:=Tryz.prog) W 155 #[(0,fs C S b bl),(1,dw C S P par first),(2,.slice (some ⟨wb,0,none⟩) n cw),(3,.slice (some ⟨eb,0,none⟩) n n)] _ (Hn C S P par first b bl wb eb n cw);unfold execOp;simp only[g,List.map_toArray,List.map_cons,List.map_nil,i,j,k,l,m,Sem.run_bind,Sem.run_pure,Result.andThen_ok]
theorem tV {a:Act} {b:Oper} {W:World} {x:Operand} (c:b.op= .box 155 x) {R:Array Value} (d:a.eval x= .agg R):
 (execOp a.eval b).run Tryz.prog W= .ok (.value (.pointer (some ⟨W.heap.size,0,none⟩))) (W.alloc (.cells R 155)):=by
 unfold execOp;simp only[c,d,Instr.box,newVar,newRow,Value.cells,Sem.run_bind,Sem.run_pure];rfl
theorem DS.made {w a:World} {M C S P par first n cw b bl wb eb:Nat} {l:List Nat} (h:fI C S P par first) (hl:ao S l) (hn:n=l.length) (n1:1<=n) (n2:n<=S-1) (m:n<=cw) (lH:cw<=maxLen)
 (hB:Below w.heap.size w a) (d:dh a S P b bl) (e:bO a wb l) (f:eb<a.heap.size/\∀i,i<n->a.cell? ⟨eb,i,none⟩=some (.bool false)) (o:w.heap.size<=wb) (e1:b≠wb) (e2:bl≠wb) (e3:eb≠wb) (j:M=a.heap.size+1):
 DS ⟨w.heap.size,M,w,a.heap.size,wb,eb,b,bl,C,S,P,par,first,n,cw,λ_=>True⟩ (a.alloc (.cells (sS C S b bl P par first wb n cw eb bk bk bk bk).toArray 155)) bk bk bk bk l:=by
 have p:=d.1;have q:=d.2.1;have r:=e.1;have g:=f.1;have b0:=hB.size;have c:Below a.heap.size a (a.alloc (.cells (sS C S b bl P par first wb n cw eb bk bk bk bk).toArray 155)):=ax _ _;refine⟨⟨h.vf,h.p1,h.p2,h.f2,n1,n2,m,lH,⟨b0,o⟩,by show a.heap.size≠wb;omega,by show b≠a.heap.size;omega,e1,by show bl≠a.heap.size;omega,e2,by show eb≠a.heap.size;omega,e3,λ_ _ _ _ _=>trivial,λ_ _ _ _ _ _=>trivial,?_⟩,ae hB c,by show M<=_;rw[j];simp,aa.new _ _ _ _ rfl,e.below c,hn,hl,d.below c,⟨Nat.lt_of_lt_of_le g c.size,λi k=>(c.cell g).trans (f.2 i k)⟩,trivial⟩;show w.heap.size<=M/\a.heap.size<M/\wb<M/\eb<M/\b<M/\bl<M;omega
def uz (W:World) (eb n:Nat):Prop:=eb<W.heap.size/\∀i,i<n->W.cell? ⟨eb,i,none⟩=some (.bool false)
theorem uz.below {W a:World} {eb n:Nat} (h:uz W eb n) (hb:Below W.heap.size W a):uz a eb n:=⟨Nat.lt_of_lt_of_le h.1 hb.size,λi b=>(hb.cell h.1).trans (h.2 i b)⟩
theorem qQ {e:Array Oper} {S:World->Prop} {K:Act->World->Prop} {r:List (Bool×Nat×Oper)} {k:Nat} {d:Oper} {a:Act} {W:World} {s x:Operand} (u:Region.wanted d (yielded e a.tmps)=true) (p:d.op= .call {callee:= .builtin .append,args:=#[s,x],argTypes:=#[64,64]})
 (A:Option Addr) (n c:Nat) (l:List Nat) (hs:a.eval s= .slice none 0 0) (q:a.eval x= .slice A n c) (hn:n=l.length) (v:1<=n) (w:n<=100000) (t:RD W A (zl l))
 (f:∀wb cw b,bO b wb l->W.heap.size<=wb->n<=cw->cw<=maxLen->Below W.heap.size W b->S b/\bn Tryz.prog e S K r (a.put d.dst (.slice (some ⟨wb,0,none⟩) n cw)) b):bn Tryz.prog e S K ((true,k,d)::r) a W:=by
 obtain⟨wb,cw,b,y,g,i,j,m,o⟩:=FM (a:=a) p A n c l hs q hn v w t;exact fD u y (f wb cw b g i j m o).1 (f wb cw b g i j m o).2
theorem r8 {e:Array Oper} {S:World->Prop} {K:Act->World->Prop} {r:List (Bool×Nat×Oper)} {k:Nat} {d:Oper} {a:Act} {W:World} {l c:Operand} (m:Region.wanted d (yielded e a.tmps)=true) (j:d.op= .makeSlice 26 l c) (n:Nat) (hn:n<=100000) (hl:a.eval l= .int .i64 (n:Int)) (hc:a.eval c= .int .i64 (n:Int))
 (f:∀b,uz b W.heap.size n->Below W.heap.size W b->S b/\bn Tryz.prog e S K r (a.put d.dst (.slice (some ⟨W.heap.size,0,none⟩) n n)) b):bn Tryz.prog e S K ((true,k,d)::r) a W:=by
 obtain⟨b,o,g,i⟩:=FN (a:=a) (W:=W) j n hn hl hc;exact fD m o (f b g i).1 (f b g i).2
def Nx (w:World) (C S P par first n:Nat) (l:List Nat) (A:Option Addr) (c d:Nat) (a a':Act) (W:World):Prop:=∃db wb eb b bl cw:Nat,
 a'=(((((((((((a.put (some 42) (.pointer (some ⟨d,0,none⟩))).put (some 43) (cu C S P)).put (some 45) (dw C S P par first)).put (some 46) (.slice A n c)).put (some 48) (.slice A n c)).put (some 49) (.int .i64 n)).put (some 44) (fs C S b bl)).put (some 47) (.slice (some ⟨wb,0,none⟩) n cw)).put (some 50) (.slice (some ⟨eb,0,none⟩) n n)).put (some 51) (.agg (sS C S b bl P par first wb n cw eb bk bk bk bk).toArray)).put (some 52) (.pointer (some ⟨db,0,none⟩))).put (some 10) (.pointer (some ⟨db,0,none⟩))/\
 DS ⟨w.heap.size,W.heap.size,w,db,wb,eb,b,bl,C,S,P,par,first,n,cw,λ_=>True⟩ W bk bk bk bk l
theorem yr (xs:List Nat) {k:Nat} (a:k<xs.length):xs.take (k+1)=xs.take k++[xs.getD k 0]:=by
 rw[List.take_add_one];have:xs[k]?=some (xs.getD k 0):=by simp[List.getD,a]
 rw[this];rfl
section
open Fl
variable {c s p : Nat} (h : VF c s p)
include h
end
theorem uL (A:Option Addr) (m c:Nat) (b:List Bool) (v n:Nat) (w:World) (f:v<=1000000000000) (hn:n<=62) (S:m<=1000) (hb:SR vB false w A m c b):
 Calls Tryz.prog 59 #[.slice A m c,.int .i64 v,.int .i64 n] w (RT vB false w (b++aH v n,0)):=by
 obtain⟨t,x,F,G,H⟩:=info_parts gZ;obtain⟨N,T⟩:∃N,m+n=N:=⟨_,rfl⟩;have V:(m:Int)+(n:Int)=(N:Int):=oO;have o:m<=N:=oO;have X:N<=1062:=oO;have Y:∀W:World,(Instr.makeSlice 26 (.int .i64 (m:Int)) (.int .i64 (N:Int))).run Tryz.prog W= .ok (.slice (some ⟨W.heap.size,0,none⟩) m N) (W.alloc (.cells (madeCells #[Value.bool false] N) 4)):=λW=>by
  have h:=run_make (P:=Tryz.prog) W 26 4 t (.bool false) Tryz.underlying26 x F .i64 .i64 (m:Int) (N:Int) oO oO (by rw[H];omega) oO;rw[G,Nat.mul_one]at h;simp only[Int.toNat_natCast]at h;exact h
 have z:=Lib.hid hb;have a:Hid (m=b.length):=hb.hn;have J:Hid (∀g:World,g.heap[w.heap.size]?=some (.cells (splice (madeCells #[Value.bool false] N).toList 0 (b.map vB)).toArray 4 (0,0))->g.ownsRow w.heap.size 4 1 (.slice (some ⟨w.heap.size,0,none⟩) m N) b.length (b.map vB)):=by
  show∀_,_;intro g d;have hl:(madeCells #[Value.bool false] N).toList.length=N:=by simp[madeCells]
  have K:(splice (madeCells #[Value.bool false] N).toList 0 (b.map vB)).length=N:=by rw[length_splice _ _ _ (by rw[hl,List.length_map,<-a.out];omega),hl]
  refine⟨by simp,.inr ⟨w.heap.size,N,_,by rw[a.out],Nat.le_refl _,d,by rw[<-a.out];exact o,by unfold maxLen;omega,by simpa using K,?_⟩⟩;simp[splice,List.take_append]
 have B:Hid (∀W,af w W->0<(b.map vB).length->∃i,A=some i/\∀j v,(b.map vB)[j]?=some v->W.cell? (i.add j)=some v):=by
  show∀W,_;intro W C k;obtain⟨i,e,D,d⟩:=z.out.rd (by simpa using k);refine⟨i,e,λj v f=>?_⟩;rw[C.cell (by rw[aJ];exact D)];have l:j<b.length:=by
   rcases Nat.lt_or_ge j b.length with h|h
   ·exact h
   ·rw[List.getElem?_eq_none (by simpa using h)]at f;cases f
  rw[d j l];simpa[List.getD,l]using f
 have Z:m<=1048576-n:=oO;have L:Hid (b.length<=100000000):=by show _<=_;rw[<-a.out];omega
 clear hb;go_enter Tryz.func59,Tryz.ntmps59
 go_wp2_with(first
  |((with_reducible show wpList _ _ _ (⟨_,Op.call ⟨Callee.builtin Builtin.copy,_,_⟩,_,_,_,_⟩::_) _ _);(refine wpList_copy_splice rfl _ _ 26 26 rfl 4 Tryz.underlying26 Im _ A m N m c rfl rfl w.heap.size 0 (madeCells #[Value.bool false] N).toList 4 (heap_alloc_new _ _) (b.map vB) (by rw[List.length_map,<-a.out];exact(Nat.min_self m).symm) (λk=>⟨rfl,B.out _ (ax _ _) k⟩) (by simp[madeCells];rw[<-a.out];exact o) (λu E=>by obtain⟨y,_,rfl⟩:=List.mem_map.1 E;rfl) w.heap.size w (ax _ _) (Nat.le_refl _) ?_);intro g d p;have M:=Lib.hid (J.out g d.out);have q:=Lib.hid p;clear d p)
  |(go_at_call 108;refine(nR w.heap.size b _ v n _ f hn L.out q.out.size M.out).mono ?_;rintro e U ⟨u3,rfl,r,s⟩;have O:=Lib.hid r;have Q:=Lib.hid s;clear r s))
 go_ret2
 exact RT.mk rfl (SG.cd O.out) (q.out.trans Q.out)
def bg (b:List Bool) (s m:Nat):List Nat:=(List.range m).map λi=>numF b (i* s) s
theorem cV (b:List Bool) (s m:Nat):(bg b s m).length=m:=by unfold bg;simp
theorem vn (b:List Bool) (s m:Nat):bg b s (m+1)=bg b s m++[numF b (m* s) s]:=by unfold bg;rw[List.range_succ,List.map_append];rfl
theorem nH (b:List Bool) (s m:Nat):ao (2^s) (bg b s m):=λi=>by
 have a:1<=2^s:=Nat.one_le_two_pow;rcases Nat.lt_or_ge i m with h|h
 ·unfold bg;rw[bp _ _ _ h];exact ji _ _ _
 ·rw[lN (by rw[cV];exact h)];omega
theorem SR.piece {α:Type} {f:α->Value} {d:α} {w:World} {e:Addr} {n c:Nat} {l:List α} (h:SR f d w (some e) n c l) (a k b:Nat) (i:a+k<=n) (hc:k<=b) (g:b<=c):SR f d w (some (e.add a)) k b ((l.drop a).take k):=by
 have hn:=h.hn;refine⟨by rw[List.length_take,List.length_drop];omega,hc,Nat.le_trans g h.hm,?_⟩;exact(h.rd.drop a).take k
theorem xW (b:List Bool) (a k:Nat):numF ((b.drop a).take k) 0 k=numF b a k:=by
 rw[Ad _ _ _ _ oO,nL,Nat.add_zero]
theorem ku {P:Program} {c:Array Oper} {d:List Oper} {b:Oper} {a:Act} {Q:Exit->Act->World->Prop} {w:World} {v:Value} (i:Region.wanted b (yielded c a.tmps)=true) (e:(execOp a.eval b).run P w= .ok (.value v) w) (f:wpList P c Q d (a.put b.dst v) w):wpList P c Q (b::d) a w:=by
 refine wpList_step λK g=>?_;simp only[i,if_true];unfold Oper.wp;rw[e];exact g _ _ f
theorem qb {a:Act} {e:Oper} {W:World} {x i j:Operand} (g:e.op= .slice 26 x (some i) (some j) none) {b:Addr} {n c:Nat} (l:a.eval x= .slice (some b) n c) {I f:Int} (o:a.eval i= .int .i64 I) (p:a.eval j= .int .i64 f) (k m:Nat) (q:I=(k:Int)) (r:f=(m:Int)) (t:k<=m) (u:m<=c) (hc:k<c):
 (execOp a.eval e).run Tryz.prog W= .ok (.value (.slice (some (b.add k)) (m-k) (c-k))) W:=by
 subst q r;have d:=run_slice_lh (P:=Tryz.prog) W 26 (some b) n c rr .i64 .i64 (k:Int) (m:Int) oO oO oO;rw[xM]at d;simp only[Result.andThen_ok,sliced,Int.toNat_natCast,Nat.mul_one,Option.map_some]at d;rw[if_neg oO]at d;have s:=run_sliceAt_slice (P:=Tryz.prog) W 26 (.slice (some b) n c) (some (.int .i64 (k:Int))) (some (.int .i64 (m:Int))) none rr;unfold execOp;simp only[g,l,o,p,Option.map_some,Option.map_none,Sem.run_bind,Sem.run_pure,Result.andThen_ok,s,d]
theorem zi (A:Option Addr) (n c at_ m:Nat) (b:List Bool) (w:World) (u:1<=m) (f:m<=40) (a:at_+m<=n) (hn:n<=1048576) (hb:SR vB false w A n c b):
 Calls Tryz.prog 67 #[.slice A n c,.int .i64 at_,.int .i64 m] w (λe w'=>e= .returned (.tuple #[.int .i64 ((numF b at_ m:Nat):Int),.int .i64 0])/\w'=w):=by
 have g:Hid (n=b.length):=hb.hn;obtain⟨i,rfl,-,-⟩:=hb.rd (by rw[<-g.out];omega);obtain⟨E,j⟩:∃E,at_+m=E:=⟨_,rfl⟩;have v:(at_:Int)+(m:Int)=(E:Int):=oO;obtain⟨r,k⟩:∃r,r=n-at_:=⟨_,rfl⟩;have x:(n:Int)-(at_:Int)=(r:Int):=oO;have l:=hb.hc;have o:Hid (E<=c):=by show _<=_;omega
 have p:Hid (at_<=E):=by show _<=_;omega
 have q:Hid (at_<c):=by show _<_;omega
 have s:Hid (E-at_=m):=by show _=_;omega
 have y:decide (r<m)=false:=by simp;omega
 have z:at_<=n:=oO;have t:Hid (Calls Tryz.prog 109 #[.slice (some (i.add at_)) m (c-at_)] w λe w'=>e= .returned (.int .i64 ((numF b at_ m:Nat):Int))/\w'=w):=by
  show Calls _ _ _ _ _;rw[<-xW];exact rz _ m _ _ w f (hb.piece at_ m _ a oO oO)
 clear hb k a l j;go_enter Tryz.func67,Tryz.ntmps67
 go_wp2_with(first
  |((with_reducible show wpList _ _ _ (⟨_,Op.slice 26 _ _ _ _,_,_,_,_⟩::_) _ _);refine ku rfl (qb rfl rfl rfl rfl at_ E rfl rfl p.out o.out q.out) ?_;rw[s.out])
  |(go_at_call 109;refine t.out.mono ?_;rintro e w' ⟨rfl,d⟩;rw[d];clear d))
 go_ret2
 exact⟨rfl,rfl⟩
theorem qY (A:Option Addr) (n c s m:Nat) (b:List Bool) (w:World) (Z:1<=s) (hs:s<=12) (o:n=m* s) (hn:n<=100000) (hb:SR vB false w A n c b):
 Calls Tryz.prog 60 #[.slice A n c,.int .i64 s,.bool false] w (RT vN 0 w (bg b s m,0)):=by
 obtain⟨y,z,H,J,K⟩:=info_parts dg;have k:=Lib.hid hb;have p:=Lib.hid o;have ab:m<=n:=by rw[o];exact Nat.le_mul_of_pos_right m oO
 clear hb o;go_enter Tryz.func60,Tryz.ntmps60;go_wp2;go_loopw [8,9] (λB q wr=>∃i a:Nat,i<=m/\a<=n/\q= .int .i64 a/\Hid (a=i* s)/\Hid (OG vN 3 w wr B (bg b s i))) (λ_ q _=>n-(intOf q).toNat)
 case atStart=>exact⟨0,0,Nat.zero_le _,Nat.zero_le _,rfl,by show _=_;rw[Nat.zero_mul],OG.start _ _⟩
 case round=>
  obtain⟨i,a,ac,ad,rfl,j,g⟩:=hrel;by_cases al:a<n
  ·have am:i<m:=by
    apply Classical.byContradiction;intro h;have:i=m:=oO;have l:=j.out;rw[this,<-p.out]at l;omega
   obtain⟨E,r⟩:∃E,E=a+s:=⟨_,rfl⟩;have L:E<=n:=by
    have l:=j.out;have W:=p.out;have C:(i+1)* s<=m* s:=Nat.mul_le_mul_right s oO;rw[Nat.add_mul,Nat.one_mul]at C;omega
   have ap:(a:Int)+(s:Int)=(E:Int):=oO;have av:min (E:Int) (n:Int)=(E:Int):=oO;have M:=Lib.hid (k.out.below g.out.B);have N:=k.out.hc;obtain⟨D,rfl,-,-⟩:=k.out.rd (by rw[<-k.out.hn];omega);have O:Hid (a<=E):=by show _<=_;omega
   have P:Hid (E<=c):=by show _<=_;omega
   have Q:Hid (a<c):=by show _<_;omega
   have S:Hid (E-a=s):=by show _=_;omega
   have T:Hid (E=(i+1)* s):=by show _=_;rw[r,j.out,Nat.add_mul,Nat.one_mul]
   have U:Hid (Calls Tryz.prog 109 #[.slice (some (D.add a)) s (c-a)] wr λe w'=>e= .returned (.int .i64 ((numF b a s:Nat):Int))/\w'=wr):=by
    show Calls _ _ _ _ _;rw[<-xW];exact rz _ s _ _ wr oO (M.out.piece a s _ oO oO oO)
   have V:Hid (bg b s (i+1)=bg b s i++[numF b a s]):=by show _=_;rw[vn,j.out]
   have t:Hid ((bg b s i).length<=100000):=by show _<=_;rw[cV];omega
   generalize numF b a s=x at*;have has:a+s<=100012:=oO;clear N r
   go_wp2_with(first
    |((with_reducible show wpList _ _ _ (⟨_,Op.slice 26 _ _ _ _,_,_,_,_⟩::_) _ _);refine ku rfl (qb rfl rfl rfl rfl a E rfl rfl O.out P.out Q.out) ?_;rw[S.out])
    |(go_at_call 109;refine U.out.mono ?_;rintro e w' ⟨rfl,u⟩;rw[u];clear u))
   refine wp_loop_rounds 1 ?_;rw[rounds_succ];go_wp2_with(at_builtin;refine aV (f:=vN) (d:=0) wj rfl _ _ _ rfl w.heap.size 3 y _ 8 Tryz.underlying64 z H J K rfl _ (bg b s i).length (bg b s i) rfl (au g.out.O (ax _ _)) (some ⟨wr.heap.size,0,none⟩) 1 1 [x] rfl rfl (RG.one _ _ _ _ rfl) (by have:=t.out;unfold maxLen;omega) (by have:=t.out;omega) (by have:=g.out.B.size;simp;omega) ?_;intro X Y v hg;have F:=Lib.hid (g.out.grow (ax _ _) v hg);clear v hg)
   exact⟨⟨i+1,E,by omega,L,by go_num,T,by show OG _ _ _ _ _ _;rw[V.out];exact F.out⟩,by simp[intOf];omega⟩
  ·obtain rfl:a=n:=oO;have G:Hid (bg b s i=bg b s m):=by
    show _=_;have l:i* s=m* s:=by rw[<-j.out,p.out]
    have:i=m:=Nat.eq_of_mul_eq_mul_right oO l;rw[this]
   go_wp2;go_ret2
   exact RT.mk rfl (by rw[<-G.out];exact g.out.sg) g.out.B
def bF (l:List Nat) (s:Nat):List Bool:=l.flatMap λv=>aH v s
theorem jb (l:List Nat) (s:Nat):(bF l s).length=l.length* s:=by
 induction l with
 |nil=>simp[bF]
 |cons v l a=>
  show(aH v s++bF l s).length=_;rw[List.length_append,aL,a,List.length_cons,Nat.add_mul,Nat.one_mul,Nat.add_comm]
theorem wZ (l:List Nat) (v s:Nat):bF (l++[v]) s=bF l s++aH v s:=by simp[bF]
theorem F1 (l:List Nat) (s:Nat) {i:Nat} (a:i<l.length):bF (l.take (i+1)) s=bF (l.take i) s++aH (l.getD i 0) s:=by
 rw[yr l a,wZ]
theorem nQ (A:Option Addr) (n c s:Nat) (l:List Nat) (w:World) (U:1<=s) (hs:s<=12) (hn:n<=8000) (hl:ao (2^s) l) (hb:SR vN 0 w A n c l):
 Calls Tryz.prog 63 #[.slice A n c,.int .i64 s] w (RT vB false w (bF l s,0)):=by
 obtain⟨t,u,D,E,F⟩:=info_parts gZ;have v:=Lib.hid hb;have a:Hid (n=l.length):=hb.hn;have y:=Lib.hid hl;obtain⟨N,b⟩:∃N,N=n* s:=⟨_,rfl⟩;have V:N<=96000:=by rw[b];exact Nat.mul_le_mul hn hs
 have W:(n:Int)* (s:Int)=(N:Int):=by rw[b];simp
 have hq:decide ((1048576:Int)/(s:Int)<(n:Int))=false:=by
  have z:(8000:Int)<=1048576/(s:Int):=Int.le_ediv_of_mul_le oO oO;simp;omega
 clear hb hl b;go_enter Tryz.func63,Tryz.ntmps63;go_wp2_with(at_make;refine wpList_make_own _ rfl _ _ _ rfl w.heap.size 4 t _ 1 Tryz.underlying26 u D E .i64 .i64 _ N rfl rfl (by first|rfl|omega) (by rw[F];omega) oM (Nat.le_refl _) ?_;intro B r hg;have G:=Lib.hid r;have H:Hid (Below w.heap.size w B):=(Below.refl _ _).grown hg (Nat.le_refl _) (λq hq=>by cases hq);clear r hg)
 go_loopw [6,27] (λC d wr=>∃i:Nat,i<=n/\d= .int .i64 i/\Hid (Below w.heap.size w wr)/\Hid (wr.ownsRow w.heap.size 4 1 C (bF (l.take i) s).length ((bF (l.take i) s).map vB))) (λ_ d _=>n-(intOf d).toNat)
 case atStart=>exact⟨0,Nat.zero_le _,rfl,H.out,G.out⟩
 case round=>
  obtain⟨i,X,rfl,hB,g⟩:=hrel;by_cases k:i<n
  ·obtain⟨P,rfl,O,m⟩:=(v.out.below hB.out).rd (by rw[<-a.out];omega);have Q:=m i (by rw[<-a.out];exact k);have j:Hid (l.getD i 0<2^s):=y.out i;have f:Hid (bF (l.take (i+1)) s=bF (l.take i) s++aH (l.getD i 0) s):=F1 l s (by rw[<-a.out];exact k);have J:Hid ((bF (l.take i) s).length<=100000000):=by
    show _<=_;rw[jb,List.length_take];have:min i l.length* s<=8000* 12:=Nat.mul_le_mul oO hs;omega
   generalize l.getD i 0=x at*;have K:x<=1000000000000:=by have z:=j.out;have S:=qW hs;omega
   have Y:(x:Int)/2^s=0:=by
    have e:(x:Int)/2^s=((x/2^s:Nat):Int):=by simp
    rw[e,Nat.div_eq_of_lt j.out];rfl
   clear m O;go_wp2_with(go_at_call 108;refine(nR w.heap.size (bF (l.take i) s) _ x s _ K oO J.out hB.out.size g.out).mono ?_;rintro e T ⟨u3,rfl,o,p⟩;have L:=Lib.hid o;have M:=Lib.hid p;clear o p)
   exact⟨⟨i+1,by omega,by go_num,hB.out.trans M.out,by rw[f.out];exact L.out⟩,by simp[intOf];omega⟩
  ·obtain rfl:n=i:=oO;have f:Hid (l.take n=l):=by show _=_;rw[a.out,List.take_length]
   go_wp2;go_ret2
   exact RT.mk rfl (by have h:=g.out;rw[f.out]at h;exact SG.cd h) hB.out
def fH (L:Int) (c:Bool):Bool:=decide (1<=L)&&(decide (L<=4)||(decide (L<=32)&&!c))
def aC (L:Nat) (c:Bool):Nat:=if c=true then 11+4* L else 14+4* L
def aj (L:Nat) (c:Bool):Nat:=if c=true then aC L c else aC L c+1+2* ((aC L c/2-1)/15)
def ie (L:Nat) (c:Bool):Nat:=if c=true then(88+16* L)* L else(112+16* L)* L
def aq (L:Nat):Nat:=if L<=2 then 6 else if L<=8 then 8 else if L<=22 then 10 else 12
def aD (L:Nat) (c:Bool):Nat:=ie L c/aq L
theorem kg {L:Int} {c:Bool} (h:fH L c=true):∃k:Nat,L=(k:Int)/\1<=k/\k<=32/\(c=true->k<=4):=by
 unfold fH at h;simp only[Bool.and_eq_true,Bool.or_eq_true,decide_eq_true_eq,Bool.not_eq_true']at h;refine⟨L.toNat,by omega,by omega,by omega,λe=>?_⟩;rcases h.2 with a|a
 ·omega
 ·rw[e]at a;cases a.2
theorem qD {k:Nat} {c:Bool} (b:1<=k) (d:k<=32) (a:c=true->k<=4):fH (k:Int) c=true:=by
 unfold fH;cases c with
 |true=>have:=a rfl;simp;omega
 |false=>simp;omega
theorem jM {L:Nat} {c:Bool} (h:L<=32):11<=aC L c/\aC L c<=142:=by unfold aC;split<;>omega
theorem gj {L:Nat} {c:Bool} (h:L<=32):11<=aj L c/\aj L c<=161:=by
 have:=jM (c:=c) h;unfold aj;split<;>omega
theorem room_le {L:Nat} {c:Bool} (h:L<=32):ie L c<=20000:=by
 unfold ie;split
 ·exact Nat.le_trans (Nat.mul_le_mul (show 88+16* L<=600 by omega) h) oO
 ·exact Nat.le_trans (Nat.mul_le_mul (show 112+16* L<=624 by omega) h) oO
theorem eQ (L:Nat):aq L=6\/aq L=8\/aq L=10\/aq L=12:=by unfold aq;(repeat' split)<;>simp
theorem pc {L:Nat} {c:Bool} (h:L<=32):aD L c<=4000:=by
 unfold aD;have b:=room_le (c:=c) h;have a:=eQ L;rcases a with e|e|e|e<;>rw[e]<;>omega
abbrev bD (L:Int) (c:Bool):Value:= .agg #[.int .i64 L,.bool c]
abbrev bC (L:Int) (c:Bool):Obj:= .cells #[.int .i64 L,.bool c] 60
theorem eK (w:World) (L:Int) (c:Bool):Hid (∀W,af (w.alloc (bC L c)) W->W.cell? ⟨w.heap.size,0,none⟩=some (.int .i64 L)/\W.cell? ⟨w.heap.size,1,none⟩=some (.bool c)):=by
 show∀W,_;intro W b;have h:ak (w.alloc (bC L c)) w.heap.size [.int .i64 L,.bool c]:=ak.new _ _ _ _ rfl;have a:=h.below b;exact⟨a.2 0 oS,a.2 1 oS⟩
theorem fQ (L:Int) (c:Bool) (w:World):Calls Tryz.prog 29 #[bD L c] w λe w'=>e= .returned (.bool (fH L c))/\Below w.heap.size w w':=by
 have hB:Hid (Below w.heap.size w (w.alloc (bC L c))):=ax _ _;by_cases d:1<=L
 ·cases c with
  |true=>
   go_enter Tryz.func29,Tryz.ntmps29;go_wp2
   all_goals(go_ret;exact⟨bM (by unfold fH;by_cases a:L<=4<;>by_cases b:L<=32<;>simp[d,a,b]<;>omega),hB.out⟩)
  |false=>
   go_enter Tryz.func29,Tryz.ntmps29;go_wp2
   all_goals(go_ret;exact⟨bM (by unfold fH;by_cases a:L<=4<;>by_cases b:L<=32<;>simp[d,a,b]<;>omega),hB.out⟩)
 ·go_enter Tryz.func29,Tryz.ntmps29;go_wp2
  all_goals(go_ret;exact⟨bM (by unfold fH;simp;omega),hB.out⟩)
theorem ri (L:Nat) (c:Bool) (w:World) (h:L<=32):Calls Tryz.prog 85 #[bD L c] w λe w'=>e= .returned (.int .i64 ((aC L c:Nat):Int))/\Below w.heap.size w w':=by
 have hB:Hid (Below w.heap.size w (w.alloc (bC L c))):=ax _ _;cases c with
 |true=>
  go_enter Tryz.func85,Tryz.ntmps85;go_wp2;go_ret;exact⟨cS (by unfold aC;simp),hB.out⟩
 |false=>
  go_enter Tryz.func85,Tryz.ntmps85;go_wp2;go_ret;exact⟨cS (by unfold aC;simp),hB.out⟩
theorem mJ (L:Nat) (c:Bool) (w:World) (h:L<=32):Calls Tryz.prog 36 #[bD L c] w λe w'=>e= .returned (.int .i64 ((aj L c:Nat):Int))/\Below w.heap.size w w':=by
 have d:=eK w L c;have l:=Lib.hid (jM (c:=c) h);have f:Hid (aj L c=if c=true then aC L c else aC L c+1+2* ((aC L c/2-1)/15)):=rfl;have g:Hid (∀W,Calls Tryz.prog 85 #[bD L c] W λe w'=>e= .returned (.int .i64 ((aC L c:Nat):Int))/\Below W.heap.size W w'):=λW=>ri L c W h;generalize aC L c=B at*;obtain⟨m,n⟩:=l.out;cases c with
 |true=>
  go_enter Tryz.func36,Tryz.ntmps36;go_wp2_with(go_at_call 85;refine(g.out _).mono ?_;rintro e i ⟨rfl,a⟩;have b:=Lib.hid a;clear a;obtain⟨j,k⟩:=d.out _ b.out)
  go_ret;exact⟨cS (by rw[f.out];simp),cH b.out⟩
 |false=>
  go_enter Tryz.func36,Tryz.ntmps36;go_wp2_with(go_at_call 85;refine(g.out _).mono ?_;rintro e i ⟨rfl,a⟩;have b:=Lib.hid a;clear a;obtain⟨j,k⟩:=d.out _ b.out)
  go_ret;exact⟨cS (by rw[f.out];simp;omega),cH b.out⟩
theorem vZ (L:Nat) (c:Bool) (w:World) (h:L<=32):Calls Tryz.prog 89 #[bD L c] w λe w'=>e= .returned (.int .i64 ((ie L c:Nat):Int))/\Below w.heap.size w w':=by
 have hB:Hid (Below w.heap.size w (w.alloc (bC L c))):=ax _ _;have a:=Lib.hid (room_le (c:=c) h);have b:Hid (ie L c=if c=true then(88+16* L)* L else(112+16* L)* L):=rfl;generalize ie L c=R at*;cases c with
 |true=>
  have d:(88+16* (L:Int))* (L:Int)=(R:Int):=by rw[b.out];simp
  have f:=a.out;go_enter Tryz.func89,Tryz.ntmps89;go_wp2;go_ret;exact⟨rfl,hB.out⟩
 |false=>
  have d:(112+16* (L:Int))* (L:Int)=(R:Int):=by rw[b.out];simp
  have f:=a.out;go_enter Tryz.func89,Tryz.ntmps89;go_wp2;go_ret;exact⟨rfl,hB.out⟩
theorem kR (L:Nat) (c:Bool) (w:World) (h:L<=32):Calls Tryz.prog 33 #[bD L c] w λe w'=>e= .returned (.int .i64 ((aq L:Nat):Int))/\Below w.heap.size w w':=by
 have hB:Hid (Below w.heap.size w (w.alloc (bC L c))):=ax _ _;go_enter Tryz.func33,Tryz.ntmps33;go_wp2
 all_goals(go_ret;exact⟨cS (by unfold aq;(repeat' split)<;>first|rfl|omega),hB.out⟩)
theorem nB (L:Nat) (c:Bool) (w:World) (h:L<=32):Calls Tryz.prog 44 #[bD L c] w λe w'=>e= .returned (.int .i64 ((aD L c:Nat):Int))/\Below w.heap.size w w':=by
 have a:=eK w L c;have m:Hid (∀W,Calls Tryz.prog 89 #[bD L c] W λe w'=>e= .returned (.int .i64 ((ie L c:Nat):Int))/\Below W.heap.size W w'):=λW=>vZ L c W h;have n:Hid (∀W,Calls Tryz.prog 33 #[bD L c] W λe w'=>e= .returned (.int .i64 ((aq L:Nat):Int))/\Below W.heap.size W w'):=λW=>kR L c W h;have o:=Lib.hid (room_le (c:=c) h);have p:=Lib.hid (eQ L);have i:Hid (aD L c=ie L c/aq L):=rfl;obtain⟨q,r⟩:=a.out _ (Below.refl _ _);generalize ie L c=R at*;generalize aq L=s at*;have u:s≠0:=by rcases p.out with e|e|e|e<;>omega
 have v:(0:Int)<(s:Int):=oO;have x:¬((s:Int)=0):=oO;have y:0<s:=oO;have t:=o.out;go_enter Tryz.func44,Tryz.ntmps44;go_wp2;refine yO (af (w.alloc (bC L c))) [1,3,0,2,4,0,5,6] (ai (Below.refl _ _)) ?_
 repeat refine zO a.out ?_
 refine zZ ?_;refine(m.out _).mono ?_;rintro e j ⟨rfl,b⟩;have d:Hid (af (w.alloc (bC L c)) j):=ae (ai (Below.refl _ _)) b;clear b;refine⟨_,rfl,d.out,jO ?_⟩;refine zZ ?_;refine(n.out _).mono ?_;rintro e k ⟨rfl,f⟩;have g:Hid (af (w.alloc (bC L c)) k):=ae d.out f;clear f;refine⟨_,rfl,g.out,jO ?_⟩;have l:Hid ((R:Int)/(s:Int)=((aD L c:Nat):Int)):=by show _=_;rw[i.out];simp
 have hq:=l.out;have z:IntKind.i64.wrap ((aD L c:Nat):Int)=((aD L c:Nat):Int):=aF _ oO (by have:=pc (c:=c) h;omega)
 repeat refine zO a.out ?_
 refine ag ?_;go_wp2;go_ret;exact⟨rfl,cH g.out⟩
def Of (w:World) (a b:Int) (e:Ending) (w':World):Prop:=e= .returned (.tuple #[.int .i64 a,.int .i64 b])/\Below w.heap.size w w'
def M5 (w:World) (a b c:Int) (e:Ending) (w':World):Prop:=e= .returned (.tuple #[.int .i64 a,.int .i64 b,.int .i64 c])/\Below w.heap.size w w'
def uw (L:Int) (c:Bool):Int×Int:=if fH L c=true then(((aj L.toNat c:Nat):Int),0)else(0,14)
def Ae (L:Int) (c:Bool):Int×Int×Int:=if fH L c=true then(((aq L.toNat:Nat):Int),((aD L.toNat c:Nat):Int),0)else(0,0,14)
theorem wB (L:Int) (c:Bool) (w:World):Calls Tryz.prog 13 #[.int .i64 L,.bool c] w (Of w (uw L c).1 (uw L c).2):=by
 have i:=eK w L c;have f:Hid (∀W,Calls Tryz.prog 29 #[bD L c] W λe w'=>e= .returned (.bool (fH L c))/\Below W.heap.size W w'):=λW=>fQ L c W;cases a:fH L c with
 |false=>
  have g:Hid (uw L c=(0,14)):=by show _=_;unfold uw;rw[a];rfl
  rw[a]at f;clear a;go_enter Tryz.func13,Tryz.ntmps13;go_wp2_with(go_at_call 29;refine(f.out _).mono ?_;rintro e l ⟨rfl,b⟩;have d:=Lib.hid b;clear b;obtain⟨m,n⟩:=i.out _ d.out)
  go_ret2
  rw[g.out];exact⟨rfl,cH d.out⟩
 |true=>
  obtain⟨k,rfl,s,o,p⟩:=kg a;have g:Hid (uw k c=(((aj k c:Nat):Int),0)):=by show _=_;unfold uw;rw[a];simp
  have q:Hid (∀W,Calls Tryz.prog 36 #[bD k c] W λe w'=>e= .returned (.int .i64 ((aj k c:Nat):Int))/\Below W.heap.size W w'):=λW=>mJ k c W o;rw[a]at f;clear a p;go_enter Tryz.func13,Tryz.ntmps13
  go_wp2_with(first
   |(go_at_call 29;refine(f.out _).mono ?_;rintro e l ⟨rfl,b⟩;have d:=Lib.hid b;clear b;obtain⟨m,n⟩:=i.out _ d.out)
   |(go_at_call 36;refine(q.out _).mono ?_;rintro e t ⟨rfl,j⟩;have r:=Lib.hid (ae d.out j);clear j))
  go_ret2
  rw[g.out];exact⟨rfl,cH r.out⟩
theorem oU (L:Int) (c:Bool) (w:World):Calls Tryz.prog 16 #[.int .i64 L,.bool c] w (M5 w (Ae L c).1 (Ae L c).2.1 (Ae L c).2.2):=by
 have f:=eK w L c;have g:Hid (∀W,Calls Tryz.prog 29 #[bD L c] W λe w'=>e= .returned (.bool (fH L c))/\Below W.heap.size W w'):=λW=>fQ L c W;cases a:fH L c with
 |false=>
  have i:Hid (Ae L c=(0,0,14)):=by show _=_;unfold Ae;rw[a];rfl
  rw[a]at g;clear a;go_enter Tryz.func16,Tryz.ntmps16;go_wp2_with(go_at_call 29;refine(g.out _).mono ?_;rintro e r ⟨rfl,d⟩;have b:=Lib.hid d;clear d;obtain⟨j,l⟩:=f.out _ b.out)
  go_ret3
  rw[i.out];exact⟨rfl,cH b.out⟩
 |true=>
  obtain⟨k,rfl,y,m,s⟩:=kg a;have i:Hid (Ae k c=(((aq k:Nat):Int),((aD k c:Nat):Int),0)):=by show _=_;unfold Ae;rw[a];simp
  have v:Hid (∀W,Calls Tryz.prog 33 #[bD k c] W λe w'=>e= .returned (.int .i64 ((aq k:Nat):Int))/\Below W.heap.size W w'):=λW=>kR k c W m;have x:Hid (∀W,Calls Tryz.prog 44 #[bD k c] W λe w'=>e= .returned (.int .i64 ((aD k c:Nat):Int))/\Below W.heap.size W w'):=λW=>nB k c W m;rw[a]at g;clear a s;go_enter Tryz.func16,Tryz.ntmps16;go_wp2_with(go_at_call 29;refine(g.out _).mono ?_;rintro e r ⟨rfl,d⟩;have b:=Lib.hid d;clear d;obtain⟨j,l⟩:=f.out _ b.out)
  clear j l;refine yO (af (w.alloc (bC k c))) [1,3,0,2,4,0,5,6,7] (ai b.out) ?_
  repeat refine zO f.out ?_
  refine zZ ?_;refine(v.out _).mono ?_;rintro e t ⟨rfl,n⟩;have o:Hid (af (w.alloc (bC k c)) t):=ae (ai b.out) n;clear n;refine⟨_,rfl,o.out,jO ?_⟩;refine zZ ?_;refine(x.out _).mono ?_;rintro e u ⟨rfl,p⟩;have q:Hid (af (w.alloc (bC k c)) u):=ae o.out p;clear p;refine⟨_,rfl,q.out,jO ?_⟩
  repeat refine zO f.out ?_
  refine ag ?_;go_wp2;go_ret3
  rw[i.out];exact⟨rfl,cH q.out⟩
def oP (s p par first:Nat) (l:List Nat) (w:World) (e:Ending) (w':World):Prop:=Below w.heap.size w w'/\
 ((∃v V a,jT s p par first l (some v)/\e= .returned (.tuple #[.agg #[V,a],.int .i64 0])/\aA w' V (zl v)/\aA w' a (zl (dT l v)))\/(jT s p par first l none/\e= .returned (.tuple #[.agg #[bk,bk],.int .i64 17])))
theorem aA.rD {W:World} {x:Value} {xs:List Int} (b:aA W x xs) (p:Addr) {A:Option Addr} {n c:Nat} (f:W.cell? p=some (.slice A n c)) (u:Value):aA (W.setCell p u) x xs:=by
 obtain⟨B,d,rfl,g,i,k⟩:=b;refine⟨B,d,rfl,g,i,λhn=>?_⟩;obtain⟨l,e,hl,hc⟩:=k hn;refine⟨l,e,by simpa using hl,λj a=>?_⟩;rw[World.cell?_setCell_other W _ _ u (λe2=>?_)]
 ·exact hc j a
 ·have:=hc j a;rw[<-e2,f]at this;injection this with this;cases this
def jA (w v:List Nat) (i:Nat):List Nat:=(List.range i).filter λi=>decide (w.getD i 0≠v.getD i 0)
theorem Iy {w v:List Nat} {i:Nat} (h:w.getD i 0≠v.getD i 0):jA w v (i+1)=jA w v i++[i]:=by
 unfold jA;rw[List.range_succ,List.filter_append,List.filter_cons,if_pos (by simpa using h)];rfl
theorem IW {w v:List Nat} {i:Nat} (h:w.getD i 0=v.getD i 0):jA w v (i+1)=jA w v i:=by
 unfold jA;rw[List.range_succ,List.filter_append,List.filter_cons,if_neg (by simpa using h)];simp
theorem uZ (C S P par first:Nat) (l:List Nat) (n:Nat) (A:Option Addr) (z:Nat) (w:World) (h:fI C S P par first) (hn:n=l.length) (hl:ao S l) (fo:par<n) (b6:n<=S-1) (T:RD w A (zl l)):
 Calls Tryz.prog 66 #[dw C S P par first,.slice A n z,.slice none 0 0] w (oP S P par first l w):=by
 obtain⟨ds,dv,d9,ea,ec⟩:=info_parts dg;have J:=Lib.hid h;obtain⟨s3,fr⟩:=h.s3;have gs:=h.p1;have a4:=rI w C S P par first
 have dn:Hid (Below w.heap.size w (w.alloc (kp C S P par first))):=(Below.refl _ _).alloc (Nat.le_refl _) _;have E:1<=n:=oO;have gt:n<=4095:=oO;obtain⟨B,rfl,a2,ac⟩:=T (by rw[aw];omega);have dx:=Lib.hid T;have g4:=Lib.hid a2;have a5:=Lib.hid hl;have p:=Lib.hid hn;have bi:=Lib.hid b6;have dp:Hid (∀W,Calls Tryz.prog 113 #[dw C S P par first,.int .i64 n] W λe w'=>e= .returned (.bool true)/\Below W.heap.size W w'):=λW=>zT C S P par first n W oO oO
 have fn:Hid (∀W,af w W->Calls Tryz.prog 112 #[dw C S P par first,.slice (some B) n z] W λe w'=>e= .returned (.bool true)/\Below W.heap.size W w'):=λW j=>qX C S P par first l n (some B) z W h hn hl oO (T.below j)
 obtain⟨U,V,X,Y,Z⟩:=a4.out _ (Below.refl _ _);clear h hl T a2 ac hn b6;go_enter Tryz.func66,Tryz.ntmps66
 go_wp2_with(first
  |(go_at_call 112;refine(fn.out _ (dn.out.alloc oS _)).mono ?_;rintro e fv ⟨rfl,O⟩;have t:=Lib.hid O;clear O U V X Y Z;obtain⟨U,V,X,Y,Z⟩:=a4.out _ (ae (ax _ _) t.out))
  |(go_at_call 113;refine(dp.out _).mono ?_;rintro e a ⟨rfl,q⟩;have s:=Lib.hid (ae t.out q);clear q U V X Y Z))
 refine wp_loop_rounds 1 ?_;rw[rounds_succ];go_wp2_with(go_at_call 113;refine(dp.out _).mono ?_;rintro e a ⟨rfl,q⟩;have s:=Lib.hid (ae t.out q);clear q U V X Y Z)
 have a3:Hid (af a a.drew):=ai (Below.refl _ _);have Q:Hid (af w a):=ae (ah dn.out _) s.out;have ad:Hid (∀W,af a W->RD W (some B) (zl l)):=λW j=>dx.out.below (ae Q.out j);have ed:Hid (∀W,af a W->W.cell? ⟨w.heap.size,0,none⟩=some (.int .i64 C)/\W.cell? ⟨w.heap.size,1,none⟩=some (.int .i64 S)/\W.cell? ⟨w.heap.size,2,none⟩=some (.int .i64 P)/\W.cell? ⟨w.heap.size,3,none⟩=some (.int .i64 par)/\W.cell? ⟨w.heap.size,4,none⟩=some (.int .i64 first)):=λW j=>a4.out _ (ae (ae (ax _ _) s.out) j);have F:n<=100000:=oO;have a6:=a3.out.size;refine ja (S:=af a) (.br [(false,0),(false,1),(false,3),(false,4),(false,6),(false,7)] [2,8] (λk=>if k=2 then .br [] [5,8] (λk=>if k=5 then .last [(true,8),(false,9),(true,10),(false,11)]else .last [(true,5),(false,9),(true,10),(false,11)])else .last [(true,2),(true,5),(false,9),(true,10),(false,11)])) (Nx a C S P par first n l (some B) z w.heap.size) oK oK a3.out ?_ ?_
 ·simp only[wpTree,attachW,List.getElem?_cons_zero,List.getElem?_cons_succ]
  repeat refine zO ed.out ?_
  refine ag ?_;intro k K;simp only[List.mem_cons,List.not_mem_nil,or_false]at K;rcases K with rfl|rfl
  ·simp only[reduceIte,Nat.reduceEqDiff,wpTree,attachW,List.getElem?_cons_zero,List.getElem?_cons_succ];refine zZ ?_;refine(tT C S P _ J.out.vf).mono ?_;rintro e b7 ⟨D,bl,rfl,bo,O,gv,gw⟩;have t:Hid (af a b7):=ae a3.out O;have a7:=O.size;have fx:=bo.1;have fz:=bo.2.1
   have cq:=Lib.hid bo;refine⟨_,rfl,t.out,jO ?_⟩;refine ag ?_
   (try simp only[reduceIte,Nat.reduceEqDiff,wpTree,attachW,List.getElem?_cons_zero,List.getElem?_cons_succ])
   refine ag ?_;intro k K;simp only[List.mem_cons,List.not_mem_nil,or_false]at K;rcases K with rfl|rfl
   ·simp only[reduceIte,Nat.reduceEqDiff,wpTree,attachW,List.getElem?_cons_zero,List.getElem?_cons_succ];refine' qQ rfl rfl (some B) n z l rfl rfl p.out E F (ad.out _ t.out) ?_;intro wb cw b8 cs gx hc L q;have s:Hid (af a b8):=ae t.out q;have f0:=q.size;have f1:=cs.1;have ef:=Lib.hid (cq.out.below q);have Q:=Lib.hid cs;refine⟨s.out,?_⟩;simp only[yQ,yU,yX,yY];refine ag ?_
    (try simp only[reduceIte,Nat.reduceEqDiff,wpTree,attachW,List.getElem?_cons_zero,List.getElem?_cons_succ])
    refine' r8 rfl rfl n F rfl rfl ?_;intro b9 cv al;have am:Hid (af a b9):=ae s.out al;have f2:=al.size;have f3:=cv.1;have eh:=Lib.hid (ef.out.below al);have ei:=Lib.hid (Q.out.below al);have ek:=Lib.hid cv;refine⟨am.out,?_⟩;simp only[yQ,yU,yX,yY];refine' zV rfl (λW j=>p7 rfl rfl rfl rfl rfl) ?_;refine' zQ rfl (tV rfl rfl) (ah am.out _) ?_;refine zU ?_;refine ag ?_;refine⟨b9.heap.size,wb,b8.heap.size,D,bl,cw,?_,DS.made J.out a5.out p.out E bi.out hc L am.out eh.out ei.out ek.out ?_ ?_ ?_ ?_ oS⟩
    ·simp only[yQ,yU,yX,yY]
    all_goals omega
   ·simp only[reduceIte,Nat.reduceEqDiff,wpTree,attachW,List.getElem?_cons_zero,List.getElem?_cons_succ];refine' r8 rfl rfl n F rfl rfl ?_;intro dy cx bq;have G:Hid (af a dy):=ae t.out bq;have f4:=bq.size;have f5:=cx.1;have el:=Lib.hid (cq.out.below bq);have em:=Lib.hid cx;refine⟨G.out,?_⟩;simp only[yQ,yU,yX,yY];refine ag ?_
    (try simp only[reduceIte,Nat.reduceEqDiff,wpTree,attachW,List.getElem?_cons_zero,List.getElem?_cons_succ])
    refine' qQ rfl rfl (some B) n z l rfl rfl p.out E F (ad.out _ G.out) ?_;intro wb cw ca cN gy hc L ap;have H:Hid (af a ca):=ae G.out ap;have f6:=ap.size;have f7:=cN.1;have en:=Lib.hid (el.out.below ap);have eq:=Lib.hid (em.out.below ap);have er:=Lib.hid cN;refine⟨H.out,?_⟩;simp only[yQ,yU,yX,yY];refine' zV rfl (λW j=>p7 rfl rfl rfl rfl rfl) ?_;refine' zQ rfl (tV rfl rfl) (ah H.out _) ?_;refine zU ?_;refine ag ?_;refine⟨ca.heap.size,wb,b7.heap.size,D,bl,cw,?_,DS.made J.out a5.out p.out E bi.out hc L H.out en.out er.out eq.out ?_ ?_ ?_ ?_ oS⟩
    ·simp only[yQ,yU,yX,yY]
    all_goals omega
  ·simp only[reduceIte,Nat.reduceEqDiff,wpTree,attachW,List.getElem?_cons_zero,List.getElem?_cons_succ];refine' r8 rfl rfl n F rfl rfl ?_;intro dz c2 c3;have c4:Hid (af a dz):=ae a3.out c3;have f8:=c3.size;have f9:=c2.1;have es:=Lib.hid c2;refine⟨c4.out,?_⟩;simp only[yQ,yU,yX,yY];refine ag ?_
   (try simp only[reduceIte,Nat.reduceEqDiff,wpTree,attachW,List.getElem?_cons_zero,List.getElem?_cons_succ])
   refine zZ ?_;refine(tT C S P _ J.out.vf).mono ?_;rintro e dE ⟨D,bl,rfl,bs,bt,gz,gC⟩;have bv:Hid (af a dE):=ae c4.out bt;have gb:=bt.size;have gc:=bs.1;have ge:=bs.2.1
   have et:=Lib.hid (es.out.below bt);have ew:=Lib.hid bs;refine⟨_,rfl,bv.out,jO ?_⟩;refine' qQ rfl rfl (some B) n z l rfl rfl p.out E F (ad.out _ bv.out) ?_;intro wb cw cb c5 gD hc L av;have bx:Hid (af a cb):=ae bv.out av;have gg:=av.size;have gi:=c5.1;have ex:=Lib.hid (et.out.below av);have ey:=Lib.hid (ew.out.below av);have ez:=Lib.hid c5;refine⟨bx.out,?_⟩;simp only[yQ,yU,yX,yY];refine' zV rfl (λW j=>p7 rfl rfl rfl rfl rfl) ?_;refine' zQ rfl (tV rfl rfl) (ah bx.out _) ?_;refine zU ?_;refine ag ?_;refine⟨cb.heap.size,wb,a.drew.heap.size,D,bl,cw,?_,DS.made J.out a5.out p.out E bi.out hc L bx.out ey.out ez.out ex.out ?_ ?_ ?_ ?_ oS⟩
   ·simp only[yQ,yU,yX,yY]
   all_goals omega
 ·rintro a' a8 ⟨db,wb,eb,D,bl,cw,rfl,c6⟩;have c7:=Lib.hid c6;clear c6;simp only[yQ,yU,yX,yY];have a0:Hid (∀W,Below a.heap.size a W->aa W (w.heap.size+1) #[bk,bk] 98):=by
   show∀W,_;intro W j;have a9:aa ((w.alloc (kp C S P par first)).alloc (.cells #[bk,bk] 98)) (w.heap.size+1) #[bk,bk] 98:=aa.new _ _ _ _ oS;exact(a9.below s.out).below j
  have gN:Hid (w.heap.size+1<a.heap.size):=by show _<_;have:=s.out.size;simp at this;omega
  have am:Hid (af a a8):=c7.out.B;go_wp2;refine wp_loop_rounds 1 ?_;rw[rounds_succ];go_wp2_with(go_at_call 120;refine(Lu _ l _ c7.out).mono ?_;rintro e m ⟨b,rfl,r,ce,hb,d0,d1,d2,d3,c,bz,c8⟩;subst hb;have ch:=Lib.hid ce;have b1:=Lib.hid bz;have G:Hid (af a m):=bz.B;have c9:=Lib.hid c8;clear ce bz c8;have ab:=Lib.hid (a0.out _ G.out);have c0:m.cell? ⟨w.heap.size+1,0,none⟩=some bk:=ab.out.cell 0 _ rfl;have c1:m.cell? ⟨w.heap.size+1,1,none⟩=some bk:=ab.out.cell 1 _ rfl;have bb:m.frozen? ⟨w.heap.size+1,0,none⟩=false:=frozen_of_row _ _ _ _ _ ab.out;have bd:m.frozen? ⟨w.heap.size+1,1,none⟩=false:=frozen_of_row _ _ _ _ _ ab.out;rcases r with _|v)
  ·have b2:Hid (Below w.heap.size w m):=ae Q.out G.out;refine bodyPost_ret (v:= .tuple #[.agg #[bk,bk],.int .i64 17]) (by simp[results,Tryz.results66,go_sem,c0,c1]) rfl ⟨(b2.out.setCell oS _).setCell oS _,.inr ⟨ch.out,rfl⟩⟩
  ·obtain rfl:c=v:=c9.out v rfl;have eA:Hid (a8.heap.size<=m.heap.size):=b1.out.sz;have ci:=Lib.hid b1.out.hw;clear c9 c0 c1 bb bd a0;have a0:Hid (∀W,Below a.heap.size a W->aa W (w.heap.size+1) #[bk,bk] 98):=by
    show∀W,_;intro W j;have a9:aa ((w.alloc (kp C S P par first)).alloc (.cells #[bk,bk] 98)) (w.heap.size+1) #[bk,bk] 98:=aa.new _ _ _ _ oS;exact(a9.below s.out).below j
   go_loopw [13,87] (λd4 be wr=>∃i f:Nat,i<=n/\f<=i/\be= .int .i64 i/\Hid (f=(jA l c i).length)/\Hid (DS ⟨a.heap.size,a8.heap.size,a,db,wb,eb,D,bl,C,S,P,par,first,n,cw,λ_=>True⟩ wr d0 d1 d2 d3 c)/\Hid (wr.ownsRow m.heap.size 3 1 d4 f ((jA l c i).map vN))/\Hid (m.heap.size<=wr.heap.size)) (λ_ be _=>n-(intOf be).toNat)
   case atStart=>exact⟨0,0,Nat.zero_le _,Nat.le_refl _,rfl,rfl,b1,World.ownsRow_nil _ _ _ _,Nat.le_refl _⟩
   case round=>
    obtain⟨i,f,g0,g1,rfl,ck,o,M,b3⟩:=hrel;obtain⟨co,cc,rfl⟩:=cU M.out;by_cases da:i<n
    ·have dd:wr.cell? ⟨db,9,none⟩=some (.slice (some ⟨wb,0,none⟩) n cw):=o.out.R.cell 9 _ rfl;have d5:wr.cell? ⟨wb,i,none⟩=some (.int .i64 ((c.getD i 0:Nat):Int)):=(o.out.W.2 i (by have:=ci.out;show i<_;exact Nat.lt_of_lt_of_eq da this)).1;obtain⟨g2,e,a2,ac⟩:=ad.out wr o.out.B (by rw[aw,<-p.out];omega);cases e;have cp:=ac i (by rw[aw,<-p.out];exact da);rw[cT]at cp;have bf:Hid (l.getD i 0≠c.getD i 0->jA l c (i+1)=jA l c i++[i]):=λe=>Iy e;have b4:Hid (l.getD i 0=c.getD i 0->jA l c (i+1)=jA l c i):=λe=>IW e;generalize c.getD i 0=x at*;generalize l.getD i 0=y at*;clear ac a2;by_cases de:y=x
     ·subst de;have N:=Lib.hid (b4.out rfl);have a7:((y:Int)!=(y:Int))=false:=by simp
      clear bf b4;go_wp2;go_quiet (fail)
      go_wp2;have u:af wr (wr.drewN nq):=cZ (Below.refl _ _) _;exact⟨⟨i+1,f,by omega,by omega,by go_num,by rw[N.out];exact ck,o.out.below u,by rw[N.out];exact au M.out u,Nat.le_trans b3.out u.size⟩,by simp[intOf];omega⟩
     ·have N:=Lib.hid (bf.out de);have a6:((x:Int)==(y:Int))=false:=by rw[beq_eq_false_iff_ne];omega
      have a7:((x:Int)!=(y:Int))=true:=by rw[bne,a6];rfl
      clear bf b4;go_wp2;go_quiet (fail)
      have u:af wr (wr.drewN nq):=cZ (Below.refl _ _) _;have e0:=Lib.hid (o.out.below u);have dk:=Lib.hid (au M.out u);have dl:Hid (m.heap.size<=(wr.drewN nq).heap.size):=Nat.le_trans b3.out u.size;clear u o M b3 dd d5 cp a6 a7;generalize wr.drewN nq=d6 at*;have g3:f<=4096:=oO;go_wp2_with(at_builtin;refine aV (f:=vN) (d:=0) wj rfl _ _ _ rfl m.heap.size 3 ds _ 8 Tryz.underlying64 dv d9 ea ec rfl _ f (jA l c i) rfl (dk.out.alloc _) (some ⟨d6.heap.size,0,none⟩) 1 1 [i] rfl rfl (RG.one _ _ _ _ rfl) oM oO (by have:=dl.out;simp;omega) ?_;intro go d7 b5 hg;obtain⟨gp,gq,rfl⟩:=cU b5;have e9:=Lib.hid ((e0.out.below (ax _ _)).grown hg (λg fb=>Nat.le_trans eA.out (dk.out.lt g fb).1));have fc:=Lib.hid b5;have fd:Hid (m.heap.size<=d7.heap.size):=Nat.le_trans dl.out (Nat.le_trans oS hg.size);clear b5 hg)
      exact⟨⟨i+1,f+1,by omega,by omega,by go_num,by show _=_;rw[N.out,List.length_append,<-ck.out];rfl,e9.out,by rw[N.out];exact fc.out,fd.out⟩,by simp[intOf];omega⟩
    ·obtain rfl:i=n:=oO;have H:Hid (af a wr):=o.out.B;have dd:wr.cell? ⟨db,9,none⟩=some (.slice (some ⟨wb,0,none⟩) i cw):=o.out.R.cell 9 _ rfl;have a1:=Lib.hid (a0.out _ H.out);have c0:wr.cell? ⟨w.heap.size+1,0,none⟩=some bk:=a1.out.cell 0 _ rfl;have c1:wr.cell? ⟨w.heap.size+1,1,none⟩=some bk:=a1.out.cell 1 _ rfl;have bb:wr.frozen? ⟨w.heap.size+1,0,none⟩=false:=frozen_of_row _ _ _ _ _ a1.out;have bd:wr.frozen? ⟨w.heap.size+1,1,none⟩=false:=frozen_of_row _ _ _ _ _ a1.out;have b2:Hid (Below w.heap.size w wr):=ae Q.out H.out;have fe:Hid (aA wr (.slice co f cc) (zl (dT l c))):=by
      show aA _ _ _;have d8:=aA.AK (SG.cd (f:=vN) (d:=0) M.out);have e:jA l c i=dT l c:=by unfold jA dT;rw[p.out]
      rw[<-e];exact d8
     have fl:Hid (aA wr (.slice (some ⟨wb,0,none⟩) i cw) (zl c)):=o.out.W.ints ci.out o.out.ok.NG o.out.ok.NJ;go_wp2;have e1:(wr.setCell ⟨w.heap.size+1,0,none⟩ (.slice (some ⟨wb,0,none⟩) i cw)).cell? ⟨w.heap.size+1,1,none⟩=some bk:=by rw[World.cell?_setCell_other _ _ _ _ oS];exact c1
     refine bodyPost_ret (v:= .tuple #[.agg #[.slice (some ⟨wb,0,none⟩) i cw,.slice co f cc],.int .i64 0]) (by simp[results,Tryz.results66,go_sem,c0,c1,bb,bd]) rfl ⟨(b2.out.setCell oS _).setCell oS _,.inl ⟨c,_,_,ch.out,rfl,((fl.out.rD _ c0 _).rD _ e1 _),((fe.out.rD _ c0 _).rD _ e1 _)⟩⟩
theorem Er:Tryz.prog.underlying 64=some (.slice (Tryz.prog.elem 64)):=oK
theorem GO (w:World):(sizeOf (Tryz.prog.elem 64)).run Tryz.prog w= .ok 1 w:=oK
theorem aa.grown {w W:World} {g:Nat} {b:Array Value} {a:TypeId} {row:Option Nat} (h:aa w g b a) (hg:w.grownBy W row) (c:some g≠row):aa W g b a:=(hg.block g (ar h) c).trans h
def jS (w:Nat):Nat:=if w=6 then 67 else if w=8 then 301 else if w=10 then 1033 else if w=12 then 4201 else 19
def sE (w:Nat):Prop:=w=4\/w=6\/w=8\/w=10\/w=12
theorem zh {w:Nat} (h:sE w):VF 2 (2^w) (jS w):=by
 rcases h with rfl|rfl|rfl|rfl|rfl
 ·exact .inr ⟨4,by omega,by omega,by kernel_rfl,rfl,rfl,by kernel_rfl⟩
 ·exact .inr ⟨6,by omega,by omega,by kernel_rfl,rfl,rfl,by kernel_rfl⟩
 ·exact .inr ⟨8,by omega,by omega,by kernel_rfl,rfl,rfl,by kernel_rfl⟩
 ·exact .inr ⟨10,by omega,by omega,by kernel_rfl,rfl,rfl,by kernel_rfl⟩
 ·exact .inr ⟨12,by omega,by omega,by kernel_rfl,rfl,rfl,by kernel_rfl⟩
theorem FW {w par:Nat} (h:sE w) (a:1<=par) (b:par<=2^w-2):fI 2 (2^w) (jS w) par 1:=⟨zh h,a,b,by rcases h with rfl|rfl|rfl|rfl|rfl<;>decide⟩
theorem kS (L:Nat):sE (aq L):=by rcases eQ L with h|h|h|h<;>rw[h]<;>simp[sE]
theorem CR {w:Nat} (h:sE w):pq (w:Int) (jS w:Int)=j9 2 ((2^w:Nat):Int) (jS w:Int) 0:=by
 have b:=kt (zh h);have a:(1:Int)<=(w:Int)/\(w:Int)<=12:=by rcases h with rfl|rfl|rfl|rfl|rfl<;>omega
 unfold pq AM;have c:uC (jS w:Int) (w:Int)=true:=by rw[<-DT _ _ a.1 a.2,Int.toNat_natCast];exact b
 rw[Int.toNat_natCast,if_pos (by simpa using⟨a,c⟩)]
theorem tK {L:Nat} {c:Bool} (a:1<=L) (h:L<=32) (hc:c=true->L<=4):aD L c<=2^aq L-1/\17<=aD L c:=by
 cases c with
 |true=>
  have b:=hc rfl;obtain rfl|rfl|rfl|rfl:L=1\/L=2\/L=3\/L=4:=oO
  all_goals decide
 |false=>
  have:∀k,k<33->1<=k->aD k false<=2^aq k-1/\17<=aD k false:=by decide
  exact this L oO a
theorem dK {n i:Nat} {w W:World} {v:Value} (h:Below n w W):Below n w (W.setCell ⟨n,i,none⟩ v):=h.setCell (Nat.le_refl _) _
theorem JQ (w:World):Calls Tryz.prog 110 #[.int .i64 4,.int .i64 19] w λe w'=>e= .returned (.tuple #[.agg #[.int .i64 2,.int .i64 16,.int .i64 19],.int .i64 0])/\Below w.heap.size w w':=by
 have h:=mg 4 19 w oO;have e:pq 4 19=j9 2 16 19 0:=CR (w:=4) (by simp[sE]);rw[e]at h;exact h
theorem tN (par:Nat) (w:World) (h:fI 2 16 19 par 1):Calls Tryz.prog 61 #[.int .i64 4,.int .i64 par] w λe w'=>e= .returned (.tuple #[dw 2 16 19 par 1,.int .i64 0])/\Below w.heap.size w w':=by
 have j:Hid (∀W,Calls Tryz.prog 111 #[.agg #[.int .i64 2,.int .i64 16,.int .i64 19],.int .i64 par,.int .i64 1] W λe w'=>e= .returned (.tuple #[.agg #[.int .i64 2,.int .i64 16,.int .i64 19,.int .i64 par,.int .i64 1],.int .i64 0])/\Below W.heap.size W w'):=λW=>oI 2 16 19 par 1 W h;have k:Hid (∀W,Calls Tryz.prog 110 #[.int .i64 4,.int .i64 19] W λe w'=>e= .returned (.tuple #[.agg #[.int .i64 2,.int .i64 16,.int .i64 19],.int .i64 0])/\Below W.heap.size W w'):=λW=>JQ W;obtain⟨c,d⟩:∃c,c=w.alloc (.cells #[.int .i64 0,.int .i64 0,.int .i64 0,.int .i64 0,.int .i64 0] 91):=⟨_,rfl⟩;have t:Hid (Below w.heap.size w c):=by show Below _ _ _;rw[d];exact ax _ _
 have u:Hid (aa c w.heap.size #[.int .i64 0,.int .i64 0,.int .i64 0,.int .i64 0,.int .i64 0] 91):=by show aa _ _ _ _;rw[d];exact aa.new _ _ _ _ oS
 clear h;go_enter Tryz.func61,Tryz.ntmps61
 go_wp2_with(first
  |(go_at_call 110;refine(k.out _).mono ?_;rintro e z ⟨rfl,f⟩;rw[<-d]at f;have x:=Lib.hid f;clear f)
  |(go_at_call 111;refine(j.out _).mono ?_;rintro e a ⟨rfl,g⟩;have i:=Lib.hid (ae (ah x.out _) g);clear g;have b:=Lib.hid (u.out.below i.out);have c0:a.cell? ⟨w.heap.size,0,none⟩=some (.int .i64 0):=b.out.cell 0 _ rfl;have c1:a.cell? ⟨w.heap.size,1,none⟩=some (.int .i64 0):=b.out.cell 1 _ rfl;have l:a.cell? ⟨w.heap.size,2,none⟩=some (.int .i64 0):=b.out.cell 2 _ rfl;have m:a.cell? ⟨w.heap.size,3,none⟩=some (.int .i64 0):=b.out.cell 3 _ rfl;have n:a.cell? ⟨w.heap.size,4,none⟩=some (.int .i64 0):=b.out.cell 4 _ rfl;have o:a.frozen? ⟨w.heap.size,0,none⟩=false:=frozen_of_row _ _ _ _ _ b.out;have p:a.frozen? ⟨w.heap.size,1,none⟩=false:=frozen_of_row _ _ _ _ _ b.out;have q:a.frozen? ⟨w.heap.size,2,none⟩=false:=frozen_of_row _ _ _ _ _ b.out;have r:a.frozen? ⟨w.heap.size,3,none⟩=false:=frozen_of_row _ _ _ _ _ b.out;have s:a.frozen? ⟨w.heap.size,4,none⟩=false:=frozen_of_row _ _ _ _ _ b.out))
 have y:Hid (Below w.heap.size w a):=ae t.out i.out;refine bodyPost_ret (v:= .tuple #[dw 2 16 19 par 1,.int .i64 0]) (by simp[results,Tryz.results61,go_sem,c0,c1,l,m,n,o,p,q,r,s]) rfl ⟨rfl,?_⟩;exact dK (dK (dK (dK (dK y.out))))
theorem Ji (w:World):Calls Tryz.prog 110 #[.int .i64 6,.int .i64 67] w λe w'=>e= .returned (.tuple #[.agg #[.int .i64 2,.int .i64 64,.int .i64 67],.int .i64 0])/\Below w.heap.size w w':=by
 have h:=mg 6 67 w oO;have e:pq 6 67=j9 2 64 67 0:=CR (w:=6) (by simp[sE]);rw[e]at h;exact h
theorem Hc (par:Nat) (w:World) (h:fI 2 64 67 par 1):Calls Tryz.prog 61 #[.int .i64 6,.int .i64 par] w λe w'=>e= .returned (.tuple #[dw 2 64 67 par 1,.int .i64 0])/\Below w.heap.size w w':=by
 have j:Hid (∀W,Calls Tryz.prog 111 #[.agg #[.int .i64 2,.int .i64 64,.int .i64 67],.int .i64 par,.int .i64 1] W λe w'=>e= .returned (.tuple #[.agg #[.int .i64 2,.int .i64 64,.int .i64 67,.int .i64 par,.int .i64 1],.int .i64 0])/\Below W.heap.size W w'):=λW=>oI 2 64 67 par 1 W h;have k:Hid (∀W,Calls Tryz.prog 110 #[.int .i64 6,.int .i64 67] W λe w'=>e= .returned (.tuple #[.agg #[.int .i64 2,.int .i64 64,.int .i64 67],.int .i64 0])/\Below W.heap.size W w'):=λW=>Ji W;obtain⟨c,d⟩:∃c,c=w.alloc (.cells #[.int .i64 0,.int .i64 0,.int .i64 0,.int .i64 0,.int .i64 0] 91):=⟨_,rfl⟩;have t:Hid (Below w.heap.size w c):=by show Below _ _ _;rw[d];exact ax _ _
 have u:Hid (aa c w.heap.size #[.int .i64 0,.int .i64 0,.int .i64 0,.int .i64 0,.int .i64 0] 91):=by show aa _ _ _ _;rw[d];exact aa.new _ _ _ _ oS
 clear h;go_enter Tryz.func61,Tryz.ntmps61
 go_wp2_with(first
  |(go_at_call 110;refine(k.out _).mono ?_;rintro e z ⟨rfl,f⟩;rw[<-d]at f;have x:=Lib.hid f;clear f)
  |(go_at_call 111;refine(j.out _).mono ?_;rintro e a ⟨rfl,g⟩;have i:=Lib.hid (ae (ah x.out _) g);clear g;have b:=Lib.hid (u.out.below i.out);have c0:a.cell? ⟨w.heap.size,0,none⟩=some (.int .i64 0):=b.out.cell 0 _ rfl;have c1:a.cell? ⟨w.heap.size,1,none⟩=some (.int .i64 0):=b.out.cell 1 _ rfl;have l:a.cell? ⟨w.heap.size,2,none⟩=some (.int .i64 0):=b.out.cell 2 _ rfl;have m:a.cell? ⟨w.heap.size,3,none⟩=some (.int .i64 0):=b.out.cell 3 _ rfl;have n:a.cell? ⟨w.heap.size,4,none⟩=some (.int .i64 0):=b.out.cell 4 _ rfl;have o:a.frozen? ⟨w.heap.size,0,none⟩=false:=frozen_of_row _ _ _ _ _ b.out;have p:a.frozen? ⟨w.heap.size,1,none⟩=false:=frozen_of_row _ _ _ _ _ b.out;have q:a.frozen? ⟨w.heap.size,2,none⟩=false:=frozen_of_row _ _ _ _ _ b.out;have r:a.frozen? ⟨w.heap.size,3,none⟩=false:=frozen_of_row _ _ _ _ _ b.out;have s:a.frozen? ⟨w.heap.size,4,none⟩=false:=frozen_of_row _ _ _ _ _ b.out))
 have y:Hid (Below w.heap.size w a):=ae t.out i.out;refine bodyPost_ret (v:= .tuple #[dw 2 64 67 par 1,.int .i64 0]) (by simp[results,Tryz.results61,go_sem,c0,c1,l,m,n,o,p,q,r,s]) rfl ⟨rfl,?_⟩;exact dK (dK (dK (dK (dK y.out))))
theorem I4 (w:World):Calls Tryz.prog 110 #[.int .i64 8,.int .i64 301] w λe w'=>e= .returned (.tuple #[.agg #[.int .i64 2,.int .i64 256,.int .i64 301],.int .i64 0])/\Below w.heap.size w w':=by
 have h:=mg 8 301 w oO;have e:pq 8 301=j9 2 256 301 0:=CR (w:=8) (by simp[sE]);rw[e]at h;exact h
theorem Ha (par:Nat) (w:World) (h:fI 2 256 301 par 1):Calls Tryz.prog 61 #[.int .i64 8,.int .i64 par] w λe w'=>e= .returned (.tuple #[dw 2 256 301 par 1,.int .i64 0])/\Below w.heap.size w w':=by
 have j:Hid (∀W,Calls Tryz.prog 111 #[.agg #[.int .i64 2,.int .i64 256,.int .i64 301],.int .i64 par,.int .i64 1] W λe w'=>e= .returned (.tuple #[.agg #[.int .i64 2,.int .i64 256,.int .i64 301,.int .i64 par,.int .i64 1],.int .i64 0])/\Below W.heap.size W w'):=λW=>oI 2 256 301 par 1 W h;have k:Hid (∀W,Calls Tryz.prog 110 #[.int .i64 8,.int .i64 301] W λe w'=>e= .returned (.tuple #[.agg #[.int .i64 2,.int .i64 256,.int .i64 301],.int .i64 0])/\Below W.heap.size W w'):=λW=>I4 W;obtain⟨c,d⟩:∃c,c=w.alloc (.cells #[.int .i64 0,.int .i64 0,.int .i64 0,.int .i64 0,.int .i64 0] 91):=⟨_,rfl⟩;have t:Hid (Below w.heap.size w c):=by show Below _ _ _;rw[d];exact ax _ _
 have u:Hid (aa c w.heap.size #[.int .i64 0,.int .i64 0,.int .i64 0,.int .i64 0,.int .i64 0] 91):=by show aa _ _ _ _;rw[d];exact aa.new _ _ _ _ oS
 clear h;go_enter Tryz.func61,Tryz.ntmps61
 go_wp2_with(first
  |(go_at_call 110;refine(k.out _).mono ?_;rintro e z ⟨rfl,f⟩;rw[<-d]at f;have x:=Lib.hid f;clear f)
  |(go_at_call 111;refine(j.out _).mono ?_;rintro e a ⟨rfl,g⟩;have i:=Lib.hid (ae (ah x.out _) g);clear g;have b:=Lib.hid (u.out.below i.out);have c0:a.cell? ⟨w.heap.size,0,none⟩=some (.int .i64 0):=b.out.cell 0 _ rfl;have c1:a.cell? ⟨w.heap.size,1,none⟩=some (.int .i64 0):=b.out.cell 1 _ rfl;have l:a.cell? ⟨w.heap.size,2,none⟩=some (.int .i64 0):=b.out.cell 2 _ rfl;have m:a.cell? ⟨w.heap.size,3,none⟩=some (.int .i64 0):=b.out.cell 3 _ rfl;have n:a.cell? ⟨w.heap.size,4,none⟩=some (.int .i64 0):=b.out.cell 4 _ rfl;have o:a.frozen? ⟨w.heap.size,0,none⟩=false:=frozen_of_row _ _ _ _ _ b.out;have p:a.frozen? ⟨w.heap.size,1,none⟩=false:=frozen_of_row _ _ _ _ _ b.out;have q:a.frozen? ⟨w.heap.size,2,none⟩=false:=frozen_of_row _ _ _ _ _ b.out;have r:a.frozen? ⟨w.heap.size,3,none⟩=false:=frozen_of_row _ _ _ _ _ b.out;have s:a.frozen? ⟨w.heap.size,4,none⟩=false:=frozen_of_row _ _ _ _ _ b.out))
 have y:Hid (Below w.heap.size w a):=ae t.out i.out;refine bodyPost_ret (v:= .tuple #[dw 2 256 301 par 1,.int .i64 0]) (by simp[results,Tryz.results61,go_sem,c0,c1,l,m,n,o,p,q,r,s]) rfl ⟨rfl,?_⟩;exact dK (dK (dK (dK (dK y.out))))
theorem IB (w:World):Calls Tryz.prog 110 #[.int .i64 10,.int .i64 1033] w λe w'=>e= .returned (.tuple #[.agg #[.int .i64 2,.int .i64 1024,.int .i64 1033],.int .i64 0])/\Below w.heap.size w w':=by
 have h:=mg 10 1033 w oO;have e:pq 10 1033=j9 2 1024 1033 0:=CR (w:=10) (by simp[sE]);rw[e]at h;exact h
theorem FI (par:Nat) (w:World) (h:fI 2 1024 1033 par 1):Calls Tryz.prog 61 #[.int .i64 10,.int .i64 par] w λe w'=>e= .returned (.tuple #[dw 2 1024 1033 par 1,.int .i64 0])/\Below w.heap.size w w':=by
 have j:Hid (∀W,Calls Tryz.prog 111 #[.agg #[.int .i64 2,.int .i64 1024,.int .i64 1033],.int .i64 par,.int .i64 1] W λe w'=>e= .returned (.tuple #[.agg #[.int .i64 2,.int .i64 1024,.int .i64 1033,.int .i64 par,.int .i64 1],.int .i64 0])/\Below W.heap.size W w'):=λW=>oI 2 1024 1033 par 1 W h;have k:Hid (∀W,Calls Tryz.prog 110 #[.int .i64 10,.int .i64 1033] W λe w'=>e= .returned (.tuple #[.agg #[.int .i64 2,.int .i64 1024,.int .i64 1033],.int .i64 0])/\Below W.heap.size W w'):=λW=>IB W;obtain⟨c,d⟩:∃c,c=w.alloc (.cells #[.int .i64 0,.int .i64 0,.int .i64 0,.int .i64 0,.int .i64 0] 91):=⟨_,rfl⟩;have t:Hid (Below w.heap.size w c):=by show Below _ _ _;rw[d];exact ax _ _
 have u:Hid (aa c w.heap.size #[.int .i64 0,.int .i64 0,.int .i64 0,.int .i64 0,.int .i64 0] 91):=by show aa _ _ _ _;rw[d];exact aa.new _ _ _ _ oS
 clear h;go_enter Tryz.func61,Tryz.ntmps61
 go_wp2_with(first
  |(go_at_call 110;refine(k.out _).mono ?_;rintro e z ⟨rfl,f⟩;rw[<-d]at f;have x:=Lib.hid f;clear f)
  |(go_at_call 111;refine(j.out _).mono ?_;rintro e a ⟨rfl,g⟩;have i:=Lib.hid (ae (ah x.out _) g);clear g;have b:=Lib.hid (u.out.below i.out);have c0:a.cell? ⟨w.heap.size,0,none⟩=some (.int .i64 0):=b.out.cell 0 _ rfl;have c1:a.cell? ⟨w.heap.size,1,none⟩=some (.int .i64 0):=b.out.cell 1 _ rfl;have l:a.cell? ⟨w.heap.size,2,none⟩=some (.int .i64 0):=b.out.cell 2 _ rfl;have m:a.cell? ⟨w.heap.size,3,none⟩=some (.int .i64 0):=b.out.cell 3 _ rfl;have n:a.cell? ⟨w.heap.size,4,none⟩=some (.int .i64 0):=b.out.cell 4 _ rfl;have o:a.frozen? ⟨w.heap.size,0,none⟩=false:=frozen_of_row _ _ _ _ _ b.out;have p:a.frozen? ⟨w.heap.size,1,none⟩=false:=frozen_of_row _ _ _ _ _ b.out;have q:a.frozen? ⟨w.heap.size,2,none⟩=false:=frozen_of_row _ _ _ _ _ b.out;have r:a.frozen? ⟨w.heap.size,3,none⟩=false:=frozen_of_row _ _ _ _ _ b.out;have s:a.frozen? ⟨w.heap.size,4,none⟩=false:=frozen_of_row _ _ _ _ _ b.out))
 have y:Hid (Below w.heap.size w a):=ae t.out i.out;refine bodyPost_ret (v:= .tuple #[dw 2 1024 1033 par 1,.int .i64 0]) (by simp[results,Tryz.results61,go_sem,c0,c1,l,m,n,o,p,q,r,s]) rfl ⟨rfl,?_⟩;exact dK (dK (dK (dK (dK y.out))))
theorem Hs (w:World):Calls Tryz.prog 110 #[.int .i64 12,.int .i64 4201] w λe w'=>e= .returned (.tuple #[.agg #[.int .i64 2,.int .i64 4096,.int .i64 4201],.int .i64 0])/\Below w.heap.size w w':=by
 have h:=mg 12 4201 w oO;have e:pq 12 4201=j9 2 4096 4201 0:=CR (w:=12) (by simp[sE]);rw[e]at h;exact h
theorem F0 (par:Nat) (w:World) (h:fI 2 4096 4201 par 1):Calls Tryz.prog 61 #[.int .i64 12,.int .i64 par] w λe w'=>e= .returned (.tuple #[dw 2 4096 4201 par 1,.int .i64 0])/\Below w.heap.size w w':=by
 have j:Hid (∀W,Calls Tryz.prog 111 #[.agg #[.int .i64 2,.int .i64 4096,.int .i64 4201],.int .i64 par,.int .i64 1] W λe w'=>e= .returned (.tuple #[.agg #[.int .i64 2,.int .i64 4096,.int .i64 4201,.int .i64 par,.int .i64 1],.int .i64 0])/\Below W.heap.size W w'):=λW=>oI 2 4096 4201 par 1 W h;have k:Hid (∀W,Calls Tryz.prog 110 #[.int .i64 12,.int .i64 4201] W λe w'=>e= .returned (.tuple #[.agg #[.int .i64 2,.int .i64 4096,.int .i64 4201],.int .i64 0])/\Below W.heap.size W w'):=λW=>Hs W;obtain⟨c,d⟩:∃c,c=w.alloc (.cells #[.int .i64 0,.int .i64 0,.int .i64 0,.int .i64 0,.int .i64 0] 91):=⟨_,rfl⟩;have t:Hid (Below w.heap.size w c):=by show Below _ _ _;rw[d];exact ax _ _
 have u:Hid (aa c w.heap.size #[.int .i64 0,.int .i64 0,.int .i64 0,.int .i64 0,.int .i64 0] 91):=by show aa _ _ _ _;rw[d];exact aa.new _ _ _ _ oS
 clear h;go_enter Tryz.func61,Tryz.ntmps61
 go_wp2_with(first
  |(go_at_call 110;refine(k.out _).mono ?_;rintro e z ⟨rfl,f⟩;rw[<-d]at f;have x:=Lib.hid f;clear f)
  |(go_at_call 111;refine(j.out _).mono ?_;rintro e a ⟨rfl,g⟩;have i:=Lib.hid (ae (ah x.out _) g);clear g;have b:=Lib.hid (u.out.below i.out);have c0:a.cell? ⟨w.heap.size,0,none⟩=some (.int .i64 0):=b.out.cell 0 _ rfl;have c1:a.cell? ⟨w.heap.size,1,none⟩=some (.int .i64 0):=b.out.cell 1 _ rfl;have l:a.cell? ⟨w.heap.size,2,none⟩=some (.int .i64 0):=b.out.cell 2 _ rfl;have m:a.cell? ⟨w.heap.size,3,none⟩=some (.int .i64 0):=b.out.cell 3 _ rfl;have n:a.cell? ⟨w.heap.size,4,none⟩=some (.int .i64 0):=b.out.cell 4 _ rfl;have o:a.frozen? ⟨w.heap.size,0,none⟩=false:=frozen_of_row _ _ _ _ _ b.out;have p:a.frozen? ⟨w.heap.size,1,none⟩=false:=frozen_of_row _ _ _ _ _ b.out;have q:a.frozen? ⟨w.heap.size,2,none⟩=false:=frozen_of_row _ _ _ _ _ b.out;have r:a.frozen? ⟨w.heap.size,3,none⟩=false:=frozen_of_row _ _ _ _ _ b.out;have s:a.frozen? ⟨w.heap.size,4,none⟩=false:=frozen_of_row _ _ _ _ _ b.out))
 have y:Hid (Below w.heap.size w a):=ae t.out i.out;refine bodyPost_ret (v:= .tuple #[dw 2 4096 4201 par 1,.int .i64 0]) (by simp[results,Tryz.results61,go_sem,c0,c1,l,m,n,o,p,q,r,s]) rfl ⟨rfl,?_⟩;exact dK (dK (dK (dK (dK y.out))))
theorem Ct (w par:Nat) (W:World) (a:sE w) (b:1<=par) (c:par<=2^w-2):Calls Tryz.prog 61 #[.int .i64 w,.int .i64 par] W λe w'=>e= .returned (.tuple #[dw 2 (2^w) (jS w) par 1,.int .i64 0])/\Below W.heap.size W w':=by
 have h:=FW a b c;rcases a with rfl|rfl|rfl|rfl|rfl
 ·exact tN par W h
 ·exact Hc par W h
 ·exact Ha par W h
 ·exact FI par W h
 ·exact F0 par W h
def gK (c:Bool):Nat:=if c=true then 64 else 2048
def eV (c:Bool):Nat:=if c=true then 2 else 5
def gG (c:Bool):Nat:=if c=true then 6 else 11
def eu (c:Bool):Nat:=if c=true then 5 else 6
theorem tS (c:Bool) (w:World):Calls Tryz.prog 57 #[.bool c] w λe w'=>e= .returned (.int .i64 ((gK c:Nat):Int))/\w'=w:=by
 cases c
 all_goals
  go_enter Tryz.func57,Tryz.ntmps57;go_wp2;go_ret;exact⟨rfl,rfl⟩
theorem sq (c:Bool) (w:World):Calls Tryz.prog 58 #[.bool c] w λe w'=>e= .returned (.tuple #[.int .i64 ((eV c:Nat):Int),.int .i64 ((gG c:Nat):Int),.int .i64 ((eu c:Nat):Int)])/\w'=w:=by
 cases c
 all_goals
  go_enter Tryz.func58,Tryz.ntmps58;go_wp2;go_ret3;exact⟨rfl,rfl⟩
end
end Go.Proofs.YtmnlkganmgcpbaaGreatDoor
