import Derived.Test.YtmnlkganmgcpbaaGreatDoorQm16
set_option maxRecDepth 100000
set_option maxHeartbeats 4000000
set_option linter.unusedVariables false
set_option linter.unusedSectionVars false
set_option linter.unusedSimpArgs false
namespace Go.Proofs.YtmnlkganmgcpbaaGreatDoor
section
open Go.RowKit
theorem DQ:Tryz.prog.underlying 64=some (.slice (Tryz.prog.elem 64)):=oK
theorem GF (w:World):(sizeOf (Tryz.prog.elem 64)).run Tryz.prog w= .ok 1 w:=oK
theorem CA {a:Act} {d:Oper} {W:World} {x i:Operand} (g:d.op= .slice 64 x (some i) none none) {A:Option Addr} {n c:Nat} (j:a.eval x= .slice A n c) (k:a.eval i= .int .i64 0):
 (execOp a.eval d).run Tryz.prog W= .ok (.value (.slice A n c)) W:=by
 have b:=run_slice_l (P:=Tryz.prog) W 64 A n c DQ .i64 (0:Int) oO oO;rw[GF]at b;simp only[Result.andThen_ok,sliced,Int.toNat_zero,Nat.zero_mul,Nat.sub_zero]at b;have e:(if c=0 then A else A.map λf=>f.add 0)=A:=by
  split
  ·rfl
  ·cases A with
   |none=>rfl
   |some f=>simp[Addr.add]
 rw[e]at b;have l:=run_sliceAt_slice (P:=Tryz.prog) W 64 (.slice A n c) (some (.int .i64 (0:Int))) none none DQ;unfold execOp;simp only[g,j,k,Option.map_some,Option.map_none,Sem.run_bind,Sem.run_pure,Result.andThen_ok,l,b]
theorem I9 (s p n:Nat) (P:List Nat) (i:Nat):zl (gl s p n P)++zl [bV s p (n-1-i)]=zl (gl s p n (P++[i])):=by
 unfold gl;rw[List.map_append];unfold zl;rw[<-List.map_append];rfl
theorem Dx (P:List Nat) (i:Nat):zl P++zl [i]=zl (P++[i]):=by unfold zl;rw[<-List.map_append]
theorem Jv {P:List Nat} {i:Nat} (h:i<P.length):P.getD i 0∈P:=by
 have:P.getD i 0=P[i]:=by simp[List.getD,h]
 rw[this];exact List.getElem_mem h
theorem ae.grown {w W:World} {g:Nat} {a:Array Value} {t:TypeId} {row:Option Nat} (h:ae w g a t) (hg:w.grownBy W row) (b:some g≠row):ae W g a t:=(hg.block g (ar h) b).trans h
theorem ba.grown {w W:World} {b:Nat} {l:List Nat} {row:Option Nat} (h:ba w b l) (hg:w.grownBy W row) (c:some b≠row):ba W b l:=
 ⟨Nat.lt_of_lt_of_le h.1 hg.size,λi a=>⟨(hg.cell_far ⟨b,i,none⟩ h.1 c).trans (h.2 i a).1,(hg.frozen_far ⟨b,i,none⟩ h.1 c).trans (h.2 i a).2⟩⟩
theorem RD.su {w:World} {A:Option Addr} {xs:List Int} (h:RD w A xs) (b i:Nat) (u:Value) (c:∀a,A=some a->a.block≠b):RD (w.setCell ⟨b,i,none⟩ u) A xs:=λhn=>by
 obtain⟨a,e,hl,hc⟩:=h hn;refine⟨a,e,by simpa using hl,λj d=>?_⟩
 rw[World.cell?_setCell_other w _ _ _ (λe2=>c a e (by
  have:=congrArg Addr.block e2;rw[aI]at this
  exact this.symm))]
 exact hc j d
theorem ae.su {w:World} {g:Nat} {a:Array Value} {t:TypeId} (h:ae w g a t) (b i:Nat) (u:Value) (c:g≠b):ae (w.setCell ⟨b,i,none⟩ u) g a t:=(heap_setCell_other w ⟨b,i,none⟩ g u c).trans h
theorem lX {w:World} {base:Nat} {e:TypeId} {sz:Nat} {v:Value} {k:Nat} {xs:List Value} (h:w.ownsRow base e sz v k xs) (b i:Nat) (u:Value) (hb:b<base):(w.setCell ⟨b,i,none⟩ u).ownsRow base e sz v k xs:=by
 refine⟨h.1,?_⟩;rcases h.2 with a|⟨g,cap,j,c,a,d,f⟩
 ·exact .inl a
 ·exact .inr ⟨g,cap,j,c,a,(heap_setCell_other w ⟨b,i,none⟩ g u (λe=>by subst e;exact absurd a (Nat.not_le.2 hb))).trans d,f⟩
theorem Bo {P:Program} {c:Array Oper} {d:List Oper} {b:Oper} {a:Act} {Q:Exit->Act->World->Prop} {w w':World} (i:Region.wanted b (yielded c a.tmps)=true) (e:(execOp a.eval b).run P w= .ok .skip w') (f:wpList P c Q d (a.put b.dst undef) w'):wpList P c Q (b::d) a w:=by
 refine wpList_step λK g=>?_;simp only[i,if_true];unfold Oper.wp;rw[e];exact g _ _ f
def DJ (a b:Option Nat):Prop:=a=none\/b=none\/a≠b
theorem DJ.kept {a b:Option Nat} (h:DJ a b):b=none\/b≠a:=by
 rcases h with h|h|h
 ·subst h;cases b with
  |none=>exact .inl rfl
  |some x=>exact .inr oS
 ·exact .inl h
 ·exact .inr λe=>h e.symm
theorem DJ.symm {a b:Option Nat} (h:DJ a b):DJ b a:=by
 rcases h with h|h|h
 ·exact .inr (.inl h)
 ·exact .inl h
 ·exact .inr (.inr λe=>h e.symm)
theorem DJ.grow {a a' b:Option Nat} {N:Nat} (h:DJ a b) (c:a'=a\/a'=some N) (hb:∀q,b=some q->q<N):DJ a' b:=by
 rcases c with rfl|rfl
 ·exact h
 ·cases b with
  |none=>exact .inr (.inl rfl)
  |some x=>exact .inr (.inr λe=>by injection e with e;have:=hb x rfl;omega)
theorem Cb (C S P par first:Nat) (l:List Nat) (n:Nat) (A:Option Addr) (d7 eb:Nat) (w:World) (h:dF C S P par first) (hn:n=l.length) (hl:aj S l) (D:par<n) (K:n<=S-1) (fn:RD w A (zl l)) (li:kh w eb n):
 Calls Tryz.prog 124 #[cf C S P par first,.slice A n d7,.slice (some ⟨eb,0,none⟩) n n,.int .i64 0] w (jz S P par first l w):=by
 obtain⟨fo,ce,f4,f5,f6⟩:=info_parts bZ;have B:=Lib.hid h;obtain⟨s3,v5⟩:=h.s3;have f7:=h.p1;have wx:=h.f2;have sn:1<=n:=oO;have wy:n<=4095:=oO;have sp:par<=4094:=oO;obtain⟨bz,cq⟩:∃bz,bz=((w.alloc (eT C S P par first)).alloc (.cells #[aH,aH] 98)).alloc (dS C S P):=⟨_,rfl⟩;obtain⟨c,cr⟩:∃c,c=w.heap.size:=⟨_,rfl⟩;have am:Hid (w.heap.size<=c):=Nat.le_of_eq cr.symm;have f8:Hid (Below w.heap.size w bz):=by rw[cq];exact ah (ah (ax _ _) _) _
 have T:Hid (ae bz (c+1) #[aH,aH] 98):=by rw[cq,cr];exact(ae.new _ _ _ _ oS).below (ax _ _)
 have dx:Hid (∀W,af bz W->(W.cell? ⟨c,0,none⟩=some (.int .i64 C)/\W.cell? ⟨c,1,none⟩=some (.int .i64 S)/\W.cell? ⟨c,2,none⟩=some (.int .i64 P)/\W.cell? ⟨c,3,none⟩=some (.int .i64 par)/\W.cell? ⟨c,4,none⟩=some (.int .i64 first))/\(W.cell? ⟨c+1+1,0,none⟩=some (.int .i64 C)/\W.cell? ⟨c+1+1,1,none⟩=some (.int .i64 S)/\W.cell? ⟨c+1+1,2,none⟩=some (.int .i64 P))):=by
  show∀W,_;intro W b;constructor
  ·rw[cr];exact(gT w C S P par first).out W (by rw[cq]at b;exact aa (ah (ax _ _) _) b)
  ·have hc:an bz (c+1+1) (jS C S P):=by rw[cq];exact an.new _ _ _ _ (by rw[cr];simp)
   exact eA (hc.below b)
 have ii:Hid (∀W,af w W->Calls Tryz.prog 168 #[cf C S P par first,.slice A n d7] W λe w'=>∃v,e= .returned v/\aq w' v (zl (bp S P par first l))/\Below W.heap.size W w'):=λW b=>xP C S P par first l n A d7 W h hn hl oO (fn.below b)
 have oo:Hid (∀W,Calls Tryz.prog 169 #[aN C S P,.int .i64 n] W λe w'=>∃v,e= .returned v/\aq w' v (zl (CR S P n))/\Below W.heap.size W w'):=λW=>CM C S P n W h.vf sn oO;obtain⟨G,dy⟩:∃G,G=bp S P par first l:=⟨_,rfl⟩
 rw[<-dy]at ii;have cs:Hid (G.length=par):=by show _=_;rw[dy];unfold bp;simp
 have el:Hid (aj S G):=by show aj _ _;rw[dy];exact pU h.vf hl
 have f9:=Lib.hid dy;have rb:=Lib.hid fn;have bs:=Lib.hid li;have cg:=Lib.hid hl;have al:=Lib.hid hn;have em:Hid (l.length<=S-1):=by show _<=_;rw[<-hn];exact K
 have io:Hid ((CR S P n).length=n):=lq _ _ _ _;obtain⟨⟨av,a0,a1,a2,a3⟩,b1,b2,b3⟩:=dx.out _ (Below.refl _ _);clear h fn hl hn K dy li;go_enter Tryz.func124,Tryz.ntmps124
 go_wp2_with(first
  |(go_at_call 168;rw[<-cq,<-cr];clear cq cr;refine(ii.out _ f8.out).mono ?_;rintro e v6 ⟨v7,rfl,ll,d0⟩;obtain⟨ch,d8,rfl,-,-,lm⟩:=aq.nat ll;rw[cs.out];have ls:=Lib.hid lm;have ga:=Lib.hid d0;clear ll d0 lm av a0 a1 a2 a3 b1 b2 b3;obtain⟨⟨av,a0,a1,a2,a3⟩,b1,b2,b3⟩:=dx.out _ ga.out)
  |(go_at_call 169;refine(oo.out _).mono ?_;rintro e bb ⟨v8,rfl,lv,gb⟩;obtain⟨ks,v9,rfl,-,-,lw⟩:=aq.nat lv;rw[io.out];have lx:=Lib.hid lw;have ly:=Lib.hid (aa ga.out gb);have op:=Lib.hid (ls.out.below gb);clear lv gb lw av a0 a1 a2 a3 b1 b2 b3 ls))
 have fr:Hid (RD (bb.alloc (.cells #[.int .i64 1] 3)) (some ⟨bb.heap.size,0,none⟩) (zl [1])):=RD.lit bb [1] 3 _ rfl;have os:Hid (RD (bb.alloc (.cells #[.int .i64 1] 3)) ks (zl (CR S P n))):=lx.out.alloc _;have ip:Hid (RD (bb.alloc (.cells #[.int .i64 1] 3)) ch (zl G)):=op.out.alloc _;have cv:Hid (af bz (bb.alloc (.cells #[.int .i64 1] 3))):=ah ly.out _;clear lx op ga ly ii oo;obtain⟨c8,l1⟩:∃c8,c8=bb.heap.size:=⟨_,rfl⟩;rw[<-l1]at fr⊢;clear l1;generalize bb.alloc (.cells #[.int .i64 1] 3)=bd at*;have it:Hid (kh bd eb n):=(bs.out.below f8.out).below cv.out;go_loopw [13,14] (λrc b4 wr=>∃i:Nat,i<=n/\b4= .int .i64 i/\rc= .slice (some ⟨c8,0,none⟩) 1 1/\Hid (af bd wr)) (λ_ b4 _=>n-(intOf b4).toNat)
 case atStart=>exact⟨0,Nat.zero_le _,rfl,rfl,Below.refl _ _⟩
 case round=>
  obtain⟨i,wz,rfl,rfl,hB⟩:=hrel;by_cases st:i<n
  ·have gc:=(it.out.below hB.out).2 i st;go_wp2;exact⟨⟨i+1,by omega,by go_num,rfl,hB⟩,by simp[intOf];omega⟩
  ·obtain rfl:n=i:=oO;have ot:Hid (∀W,af bd W->∀ck c9,RD W ck (zl G)->Calls Tryz.prog 171 #[aN C S P,.slice ck par c9] W λe w'=>∃v L,e= .returned (.tuple #[v,.int .i64 ((L:Nat):Int)])/\J4 B.out.vf G par W w' v L):=λW b ck c9 rd=>flocator_any C S P G ck par c9 W B.out.vf el.out cs.out.symm sp rd;have ov:Hid (∀W,af bd W->Calls Tryz.prog 170 #[aN C S P,.slice ch par d8,.slice (some ⟨c8,0,none⟩) 1 1,.int .i64 par] W λe w'=>∃v,e= .returned v/\aq w' v (zl G)/\Below W.heap.size W w'):=by
    show∀W,_;intro W b;have:=lz C S P par G [1] ch (some ⟨c8,0,none⟩) par 1 d8 1 W B.out.vf el.out (nG B.out.vf) cs.out.symm rfl f7 oO oO oO f7 oO (ip.out.below b) (fr.out.below b);rw[show min par (par+1-1)=par from by omega,GZ B.out.vf el.out cs.out]at this;exact this.mono λe w' ⟨v,D,K,_⟩=>⟨v,D,K⟩
   have gd:Hid (∀W,af bd W->(W.cell? ⟨c+1+1,0,none⟩=some (.int .i64 C)/\W.cell? ⟨c+1+1,1,none⟩=some (.int .i64 S)/\W.cell? ⟨c+1+1,2,none⟩=some (.int .i64 P))):=λW b=>(dx.out W (aa cv.out b)).2;go_wp2;refine yO (af bd) [1,2,3,4,5,6,8,0,7,9,10,0,11,12,13,14,15] (ai hB.out) ?_
   repeat refine zO gd.out ?_
   refine zZ ?_;refine(ov.out _ (ai hB.out)).mono ?_;rintro e rf ⟨wd,rfl,l2,l3⟩;obtain⟨ck,c9,rfl,-,-,mb⟩:=aq.nat l2;rw[cs.out];have d1:Hid (af bd rf):=aa (ai hB.out) l3;have md:=Lib.hid mb;clear l2 l3 mb;refine⟨_,rfl,d1.out,jO ?_⟩;refine' zQ rfl (CA rfl rfl rfl) d1.out ?_;refine zZ ?_;refine(ot.out _ d1.out ck c9 md.out).mono ?_;rintro e F ⟨v4,L,rfl,q,me,hq,kv,sv,sy,mk,ml⟩;obtain⟨fv,kw,rfl,-,-,mm⟩:=aq.nat me;have b7:Hid (af bd F):=aa d1.out ml;have mp:=Lib.hid mm;have d9:=Lib.hid hq;have fw:=Lib.hid kv;have mq:=Lib.hid mk;obtain⟨U,ge⟩:∃U,q.length=U+1:=⟨q.length-1,by omega⟩;have gg:=Lib.hid ge;rw[ge]at sy⊢;clear me ml mm hq kv mk ge sv ot ov;refine⟨_,rfl,b7.out,jO ?_⟩
   repeat refine zO gd.out ?_
   refine ag ?_;go_wp2;have o0:Hid (∀W,af F W->∀i,i<n->∃be,ks=some be/\(be.add i).block<W.heap.size/\W.cell? (be.add i)=some (.int .i64 ((bV S P (n-1-i):Nat):Int))):=by
    show∀W,_;intro W b i ce;obtain⟨be,e,s1,s2⟩:=(os.out.below (aa b7.out b)) (by rw[ak,io.out];omega);refine⟨be,e,by rw[aI];exact s1,?_⟩;rw[s2 i (by rw[ak,io.out];exact ce),bw,Jc _ _ _ _ ce]
   have s4:Hid (∀W,af F W->RD W fv (zl q)):=λW b=>mp.out.below b;have t9:Hid (∀W,af F W->RD W ch (zl G)):=λW b=>ip.out.below (aa b7.out b);have gi:Hid (∀W,af F W->kh W eb n):=λW b=>it.out.below (aa b7.out b);have en:Hid (∀W,af F W->(W.cell? ⟨c,0,none⟩=some (.int .i64 C)/\W.cell? ⟨c,1,none⟩=some (.int .i64 S)/\W.cell? ⟨c,2,none⟩=some (.int .i64 P)/\W.cell? ⟨c,3,none⟩=some (.int .i64 par)/\W.cell? ⟨c,4,none⟩=some (.int .i64 first))/\(W.cell? ⟨c+1+1,0,none⟩=some (.int .i64 C)/\W.cell? ⟨c+1+1,1,none⟩=some (.int .i64 S)/\W.cell? ⟨c+1+1,2,none⟩=some (.int .i64 P))):=λW b=>dx.out W (aa (aa cv.out b7.out) b);have ms:Hid (∀W,af F W->ae W (c+1) #[aH,aH] 98):=λW b=>T.out.below (aa (aa cv.out b7.out) b);have iv:Hid (∀W,af F W->Below w.heap.size w W):=λW b=>aa (aa (aa f8.out cv.out) b7.out) b;have mt:Hid (∀W,af F W->RD W A (zl l)):=λW b=>rb.out.below (iv.out W b);clear gd cv os ip fr it hB d1 md mp dx T bs;go_loopw [17,18,19,20] (λrg ro ev b4 wr=>∃(i f:Nat) (a4 a5:Option Addr) (bf ci:Nat),i<=n/\f<=i/\b4= .int .i64 i/\ev= .int .i64 f/\rg= .slice a4 f bf/\ro= .slice a5 f ci/\Hid (f=(fI S P n q i).length)/\Hid (af F wr)/\Hid (wr.ownsRow F.heap.size 3 1 (.slice a4 f bf) f ((zl (gl S P n (fI S P n q i))).map (Value.int .i64)))/\Hid (wr.ownsRow F.heap.size 3 1 (.slice a5 f ci) f ((zl (fI S P n q i)).map (Value.int .i64)))/\Hid (DJ (Value.slice a4 f bf).ownBlock (Value.slice a5 f ci).ownBlock)) (λ_ _ _ b4 _=>n-(intOf b4).toNat)
   case atStart=>exact⟨0,0,none,none,0,0,Nat.zero_le _,Nat.le_refl _,rfl,rfl,rfl,rfl,rfl,Below.refl _ _,World.ownsRow_nil _ _ _ _,World.ownsRow_nil _ _ _ _,.inl rfl⟩
   case round=>
    obtain⟨i,f,a4,a5,bf,ci,wA,wG,rfl,rfl,rfl,rfl,hF,hB,cx,cy,go⟩:=hrel;by_cases ix:i<n
    ·obtain⟨be,rfl,m0,gq⟩:=o0.out wr hB.out i ix;have gc:=(gi.out wr hB.out).2 i ix;have m1:=(gi.out wr hB.out).1;obtain⟨x,di⟩:∃x,x=bV S P (n-1-i):=⟨_,rfl⟩;rw[<-di]at gq;have rs:Hid (x<S):=by show _<_;rw[di];exact dD B.out.vf _
     have d2:Hid (bE S P x=fF S P n i):=by show _=_;rw[di];exact Kh B.out.vf (by rw[al.out];exact em.out) ix
     have gs:Hid (zl (gl S P n (fI S P n q i))++zl [x]=zl (gl S P n (fI S P n q i++[i]))):=by show _=_;rw[di];exact I9 _ _ _ _ _
     have d3:Hid (zl (fI S P n q i)++zl [i]=zl (fI S P n q i++[i])):=Dx _ _;have ta:Hid (bE S P x<S):=fq B.out.vf;have gt:Hid (hornN S P (bE S P x) q=0->fI S P n q (i+1)=fI S P n q i++[i]):=by show _->_;intro e;exact Aa (by rw[<-d2.out];exact e)
     have Y:Hid (hornN S P (bE S P x) q≠0->fI S P n q (i+1)=fI S P n q i):=by show _->_;intro e;exact C9 (by rw[<-d2.out];exact e)
     have b5:Hid (∀W,af wr W->(W.cell? ⟨c+1+1,0,none⟩=some (.int .i64 C)/\W.cell? ⟨c+1+1,1,none⟩=some (.int .i64 S)/\W.cell? ⟨c+1+1,2,none⟩=some (.int .i64 P))/\W.cell? (be.add i)=some (.int .i64 (x:Int))/\W.cell? ⟨eb,i,none⟩=some (.bool false)):=λW b=>⟨(en.out W (aa hB.out b)).2,(b.cell m0).trans gq,(b.cell m1).trans gc⟩;have o1:Hid (∀W,Calls Tryz.prog 173 #[aN C S P,.int .i64 x] W λe w'=>e= .returned (.int .i64 ((bE S P x:Nat):Int))/\Below W.heap.size W w'):=λW=>oF C S P x W B.out.vf rs.out;clear di gq m0 d2 gc m1;generalize bE S P x=ea at*;have q0:Hid (∀W,af wr W->Calls Tryz.prog 172 #[aN C S P,.slice fv (U+1) kw,.int .i64 ea] W λe w'=>e= .returned (.int .i64 ((hornN S P ea q:Nat):Int))/\Below W.heap.size W w'):=λW b=>yt C S P ea q (U+1) gg.out.symm fv kw W B.out.vf ta.out d9.out oO (s4.out W (aa hB.out b));generalize hornN S P ea q=k0 at*;go_wp2;refine yO (af wr) [1,2,3,4,5,6,7,8,9,10,11,12,13,0,14,15,0,16,17,18] (ai (Below.refl _ _)) ?_
     repeat refine zO b5.out ?_
     repeat refine zX b5.out ?_
     refine zZ ?_;refine(o1.out _).mono ?_;rintro e rt ⟨rfl,m2⟩;have gv:Hid (af wr rt):=aa (ai (Below.refl _ _)) m2;clear m2;refine⟨_,rfl,gv.out,jO ?_⟩;refine zZ ?_;refine(q0.out _ gv.out).mono ?_;rintro e bi ⟨rfl,m3⟩;have c2:Hid (af wr bi):=aa gv.out m3;clear m3;refine⟨_,rfl,c2.out,jO ?_⟩
     repeat refine zX b5.out ?_
     repeat refine zO b5.out ?_
     refine ag ?_;have i0:=Lib.hid (ao cx.out c2.out);have i1:=Lib.hid (ao cy.out c2.out);have i2:Hid (af F bi):=aa hB.out c2.out;have m4:Hid (F.heap.size<=bi.heap.size):=i2.out.size;have wI:bi.cell? (be.add i)=some (.int .i64 (x:Int)):=(b5.out _ c2.out).2.1;have wL:bi.cell? ⟨eb,i,none⟩=some (.bool false):=(b5.out _ c2.out).2.2;clear o1 q0 b5 cx cy hB;by_cases m5:k0=0
     ·subst m5;have c3:=Lib.hid (gt.out rfl);have wM:f<=4095:=oO;generalize tb:zl (gl S P n (fI S P n q i))=rx at*;generalize td:zl (fI S P n q i)=r0 at*;rw[<-c3.out]at gs d3;clear gt Y tb td
      go_wp2_with(first
       |(at_builtin;refine da rfl _ _ _ rfl F.heap.size 3 fo _ Tryz.underlying64 ce f4 f5 f6 rfl (.slice a4 f bf) f rx rfl (ao i0.out (ax _ _)) (some ⟨bi.heap.size,0,none⟩) 1 1 (zl [x]) rfl rfl (RD.lit bi [x] 3 _ rfl) oO (Nat.le_trans m4.out oS) ?_;intro wf dl E hg Z;obtain⟨fx,fz,rfl⟩:=cd E;rw[gs.out]at E;have o2:=Lib.hid E;have o3:=Lib.hid ((ao i1.out (ax bi (.cells #[.int .i64 (x:Int)] 3))).kept hg go.out.kept);have pb:Hid (DJ (Value.slice fx (f+1) fz).ownBlock (Value.slice a5 f ci).ownBlock):=go.out.grow Z (λg ab=>Nat.lt_of_lt_of_le (i1.out.lt g ab).2 oS);have m6:Hid (af F dl):=(ah i2.out _).grown hg (Nat.le_trans m4.out oS) (λg ab=>(i0.out.lt g ab).1);have m7:Hid (F.heap.size<=dl.heap.size):=m6.out.size;clear E hg Z)
       |(at_builtin;refine da rfl _ _ _ rfl F.heap.size 3 fo _ Tryz.underlying64 ce f4 f5 f6 rfl (.slice a5 f ci) f r0 rfl (ao o3.out (ax _ _)) (some ⟨dl.heap.size,0,none⟩) 1 1 (zl [i]) rfl rfl (RD.lit dl [i] 3 _ rfl) oO (Nat.le_trans m7.out oS) ?_;intro wl o E hg Z;obtain⟨p,r,rfl⟩:=cd E;rw[d3.out]at E;have ul:=Lib.hid E;have un:=Lib.hid ((ao o2.out (ax dl (.cells #[.int .i64 (i:Int)] 3))).kept hg pb.out.symm.kept);have up:Hid (DJ (Value.slice p (f+1) r).ownBlock (Value.slice fx (f+1) fz).ownBlock):=pb.out.symm.grow Z (λg ab=>Nat.lt_of_lt_of_le (o2.out.lt g ab).2 oS);have a8:Hid (af F o):=(ah m6.out _).grown hg (Nat.le_trans m7.out oS) (λg ab=>(o3.out.lt g ab).1);clear E hg Z))
      exact⟨⟨i+1,f+1,fx,p,fz,r,by omega,by omega,by go_num,by go_num,rfl,rfl,by show _=_;rw[c3.out,List.length_append,<-hF.out];rfl,a8.out,un.out,ul.out,up.out.symm⟩,by simp[intOf];omega⟩
     ·have wm:((k0:Int)==0)=false:=by rw[beq_eq_false_iff_ne];omega
      have c3:=Lib.hid (Y.out m5);clear gt Y gs d3;go_wp2;exact⟨⟨i+1,f,a4,a5,bf,ci,by omega,by omega,by go_num,rfl,rfl,rfl,by show _=_;rw[c3.out];exact hF.out,i2.out,by rw[c3.out];exact i0.out,by rw[c3.out];exact i1.out,go.out⟩,by simp[intOf];omega⟩
    ·obtain rfl:n=i:=oO;have m8:Hid (fI S P n q n=dC S P l.length q):=by show _=_;rw[al.out];rfl
     rw[m8.out]at hF cx cy;have ac:=hF;have T:=Lib.hid (ms.out wr hB.out);have c0:wr.cell? ⟨c+1,0,none⟩=some aH:=T.out.cell 0 _ rfl;have c1:wr.cell? ⟨c+1,1,none⟩=some aH:=T.out.cell 1 _ rfl;have cp:wr.frozen? ⟨c+1,0,none⟩=false:=frozen_of_row _ _ _ _ _ T.out;have a6:wr.frozen? ⟨c+1,1,none⟩=false:=frozen_of_row _ _ _ _ _ T.out;have c4:=Lib.hid (iv.out wr hB.out);have eq:Hid (iK B.out.vf (co B.out.vf (bp S P par first l)) par (co B.out.vf q) L):=by show iK _ _ _ _ _;rw[<-f9.out];exact mq.out
     have e9:Hid (¬(f=L/\f=U/\2* f<=par)->fE S P par first l none):=by
      show _->_;intro hc;refine Gh B.out.vf cg.out em.out d9.out fw.out eq.out (λa7=>hc ?_) (by rw[gg.out];omega);rw[<-ac.out,gg.out]at a7;exact⟨a7.1,by omega,a7.2.2⟩
     have wO:U<=4094:=oO;have k1:((U+1:Nat):Int)-1=(U:Int):=oO;obtain⟨⟨av,a0,a1,a2,a3⟩,b1,b2,b3⟩:=en.out wr hB.out;clear gi o0 mq;by_cases m9:f=L
     ·subst m9;by_cases na:f=U
      ·subst na;by_cases nb:2* f<=par
       ·have r1:decide ((par:Int)<2* (f:Int))=false:=by simp;omega
        obtain⟨s,rfl⟩:∃s:World,s=wr:=⟨_,rfl⟩;obtain⟨d,bt⟩:∃d,d=dC S P l.length q:=⟨_,rfl⟩;rw[<-bt]at hF cx cy ac m8;have w4:=Lib.hid bt;have tl:Hid ((gl S P n d).length=f):=by show _=_;rw[qm,<-ac.out]
        have tp:Hid (aj S (gl S P n d)):=F4 B.out.vf _ _;have d3:Hid (∀k,k<f->d.getD k 0<n):=by
         show∀k,_;intro k k2;have k3:=Jv (P:=d) (i:=k) (by rw[<-ac.out];exact k2);rw[bt]at k3;have:=tK k3;rw[<-bt,<-al.out]at this;exact this
        have us:Hid (RD s a4 (zl (gl S P n d))):=RD.bK cx.out;have ut:Hid (RD s a5 (zl d)):=RD.bK cy.out;have pd:Hid (∀W,af s W->Calls Tryz.prog 174 #[aN C S P,.slice ch par d8,.slice a4 f bf,.int .i64 first] W λe w'=>∃v,e= .returned v/\(aq w' v (zl (gn S P first par G (gl S P n d) f))/\Below W.heap.size W w')/\pX W v):=λW b=>Ei C S P par first f G (gl S P n d) ch a4 d8 bf W B.out.vf el.out tp.out cs.out.symm tl.out.symm f7 oO oO oO (t9.out W (aa hB.out b)) (us.out.below b)
        have er:Hid ((gn S P first par G (gl S P n d) f).length=f):=Cd _ _ _ _ _ _ _;have tq:Hid (aj S (gn S P first par G (gl S P n d) f)):=Bc B.out.vf;have tr:Hid (rcW S P l d (gn S P first par G (gl S P n d) f) f=j1 S P par first l q):=by
         show _=_;unfold j1;rw[<-bt,<-f9.out,<-al.out,<-ac.out]
        have vd:Hid (jc d (gn S P first par G (gl S P n d) f) f=bP l (j1 S P par first l q)):=by
         have h:=zC B.out.vf (par:=par) (first:=first) (q:=q) cg.out;rw[<-bt,<-f9.out,<-al.out,<-ac.out]at h;exact h
        have vG:Hid ((∀j,j<par->fL S P first (j1 S P par first l q) j=0)->fE S P par first l (some (j1 S P par first l q))):=λh=>G3 B.out.vf cg.out em.out d9.out fw.out eq.out (by rw[<-bt,<-ac.out];exact nb) h;have vp:Hid (∀j,j<par->fL S P first (j1 S P par first l q) j≠0->fE S P par first l none):=λj ec h=>I5 B.out.vf cg.out em.out d9.out fw.out eq.out ec h;generalize gn S P first par G (gl S P n d) f=V at*
        obtain⟨a,es⟩:∃a,a=s.heap.size:=⟨_,rfl⟩;obtain⟨bo,et⟩:∃bo,bo=s.alloc (.cells #[aH,aH] 98):=⟨_,rfl⟩;have ew:Hid (ae bo a #[aH,aH] 98):=by rw[et,es];exact ae.new _ _ _ _ rfl
        have bs:Hid (af s bo):=by rw[et];exact ax _ _
        have d4:Hid (s.heap.size<=a):=Nat.le_of_eq es.symm;clear bt e9 c0 c1 cp a6 cx cy eq
        go_wp2_with(first
         |(at_builtin;rw[<-et,<-es];clear et es av a0 a1 a2 a3 b1 b2 b3;refine da rfl _ _ _ rfl bo.heap.size 3 fo _ Tryz.underlying64 ce f4 f5 f6 rfl aH 0 [] rfl (World.ownsRow_nil _ _ _ _) A n d7 (zl l) rfl (by rw[ak];exact al.out) (mt.out _ (aa hB.out bs.out)) oO (Nat.le_refl _) ?_;intro v10 ad E hg Z;rw[Nat.zero_add,List.nil_append]at E;obtain⟨wb,cw,rfl,c5,nc⟩:=E.form oO;have q1:Hid (ba ad wb l):=ba.bK E oO;have pf:Hid (n<=cw/\cw<=maxLen):=(by obtain⟨wn,wo,k1,k4,r2,-⟩:=aq.bK E;injection k1 with wp r3 sb;rw[sb];rw[<-r3]at k4;exact⟨k4,r2⟩);have fb:Hid (ae ad a #[aH,aH] 98):=ew.out.grown hg (by simp[Value.ownBlock]);have pi:Hid (af s ad):=bs.out.grown hg bs.out.size (λq hq=>by cases hq);have d5:Hid (bo.heap.size<=wb/\wb<ad.heap.size):=⟨c5,nc⟩;have c0:ad.cell? ⟨a,0,none⟩=some aH:=fb.out.cell 0 _ rfl;have cp:ad.frozen? ⟨a,0,none⟩=false:=frozen_of_row _ _ _ _ _ fb.out;clear E hg Z c5 nc)
         |((with_reducible show wpList _ _ _ (⟨_,Op.store 64 _ _,_,_,_,_⟩::_) _ _);refine Bo rfl (kx rfl ⟨a,0,none⟩ (some ⟨wb,0,none⟩) n cw rfl rfl c0 cp) ?_;clear c0 cp;have i3:Hid (af s (ad.setCell ⟨a,0,none⟩ (.slice (some ⟨wb,0,none⟩) n cw))):=pi.out.setCell d4.out _;have jv:Hid (ae (ad.setCell ⟨a,0,none⟩ (.slice (some ⟨wb,0,none⟩) n cw)) a #[.slice (some ⟨wb,0,none⟩) n cw,aH] 98):=fb.out.jn (i:=0) (.slice (some ⟨wb,0,none⟩) n cw);have pl:Hid (a<bo.heap.size):=ar ew.out;have q2:Hid (ba (ad.setCell ⟨a,0,none⟩ (.slice (some ⟨wb,0,none⟩) n cw)) wb l):=q1.out.other ⟨a,0,none⟩ _ (by have:=d5.out.1;have:=pl.out;show wb≠a;omega);have q3:Hid (wb<(ad.setCell ⟨a,0,none⟩ (.slice (some ⟨wb,0,none⟩) n cw)).heap.size):=(by show _<_;simp;exact d5.out.2);generalize ad.setCell ⟨a,0,none⟩ (.slice (some ⟨wb,0,none⟩) n cw)=nl at*;obtain⟨⟨av,a0,a1,a2,a3⟩,b1,b2,b3⟩:=en.out nl (aa hB.out i3.out))
         |(go_at_call 174;refine(pd.out _ i3.out).mono ?_;rintro e N ⟨wP,rfl,⟨pm,ey⟩,pp⟩;obtain⟨ds,sd,rfl,-,-,no⟩:=aq.nat pm;rw[er.out];have gx:=Lib.hid no;have j0:=Lib.hid (jv.out.below ey);have kc:=Lib.hid (q2.out.below ey);have i4:Hid (∀z,ds=some z->nl.heap.size<=z.block):=(λz e=>pp z V.length sd (by rw[e]));have i5:=Lib.hid (aa i3.out ey);clear pm ey no pp av a0 a1 a2 a3 b1 b2 b3))
        have gy:Hid (wb≠a):=by have D:=d5.out.1;have K:a<bo.heap.size:=ar ew.out;show wb≠a;omega
        have b9:Hid (a<N.heap.size/\wb<N.heap.size):=⟨ar j0.out,kc.out.1⟩;have ts:Hid (∀z,ds=some z->z.block≠wb):=λz e h=>by have D:=i4.out z e;have K:=q3.out;rw[h]at D;omega
        have np:Hid (∀z,ds=some z->z.block≠a):=λz e h=>by have D:=i4.out z e;have K:=ar jv.out;rw[h]at D;omega
        have vq:Hid (s.heap.size<=wb):=by have D:=d5.out.1;have K:=bs.out.size;show _<=_;omega
        clear ew bs pi q1 fb jv q2 d5 q3 i4 pd pl;have nx:Hid (0<f->∀z,ds=some z->z.block<N.heap.size):=by
         show _->_;intro f0 z e;obtain⟨wR,ed,X,-⟩:=gx.out (by rw[ak,er.out];exact f0);rw[e]at ed;injection ed with ed;rw[ed];exact X
        have nz:Hid (s.heap.size<=N.heap.size):=i5.out.size;have gz:Hid (rcW S P l d V 0=l/\jc d V 0=[]):=⟨rfl,rfl⟩;have n0:Hid (∀W,af s W->(W.cell? ⟨c,0,none⟩=some (.int .i64 C)/\W.cell? ⟨c,1,none⟩=some (.int .i64 S)/\W.cell? ⟨c,2,none⟩=some (.int .i64 P)/\W.cell? ⟨c,3,none⟩=some (.int .i64 par)/\W.cell? ⟨c,4,none⟩=some (.int .i64 first))/\(W.cell? ⟨c+1+1,0,none⟩=some (.int .i64 C)/\W.cell? ⟨c+1+1,1,none⟩=some (.int .i64 S)/\W.cell? ⟨c+1+1,2,none⟩=some (.int .i64 P))):=λW b=>en.out W (aa hB.out b);have tx:Hid (∀W,af s W->ae W (c+1) #[aH,aH] 98):=λW b=>ms.out W (aa hB.out b);have vr:Hid (∀W,af s W->Below w.heap.size w W):=λW b=>iv.out W (aa hB.out b);have ty:Hid (∀W,af s W->RD W A (zl l)):=λW b=>mt.out W (aa hB.out b);have n5:Hid (∀W,af s W->RD W a5 (zl d)):=λW b=>ut.out.below b;go_loopw [24] (λf1 wr=>∃(k m:Nat) (M:Option Addr) (cc:Nat),k<=f/\m<=k/\f1= .int .i64 k/\Hid (m=(jc d V k).length)/\Hid (af s wr)/\Hid (ae wr a #[.slice (some ⟨wb,0,none⟩) n cw,.slice M m cc] 98)/\Hid (ba wr wb (rcW S P l d V k))/\Hid (RD wr ds (zl V))/\Hid (wr.ownsRow N.heap.size 3 1 (.slice M m cc) m ((zl (jc d V k)).map (Value.int .i64)))/\Hid (N.heap.size<=wr.heap.size)) (λf1 _=>f-(intOf f1).toNat)
        case atStart=>exact⟨0,0,none,0,Nat.zero_le _,Nat.le_refl _,rfl,by show _=_;rw[gz.out.2];rfl,i5.out,j0.out,by rw[gz.out.1];exact kc.out,gx.out,by rw[gz.out.2];exact World.ownsRow_nil _ _ _ _,Nat.le_refl _⟩
        case round=>
         clear i5 j0 kc gx;obtain⟨k,m,M,cc,k2,wS,rfl,ef,bv,c6,bx,gC,d6,n6⟩:=hrel;by_cases ez:k<f
         ·obtain⟨i,c7⟩:∃i,i=d.getD k 0:=⟨_,rfl⟩;have pu:i<n:=by rw[c7];exact d3.out k ez
          obtain⟨id,rfl,pv,p0⟩:=(n5.out wr bv.out) (by rw[ak,<-ac.out];omega);have gD:=p0 k (by rw[ak,<-ac.out];exact ez);rw[bw,<-c7]at gD;have gN:Hid (∀W,af s W->W.cell? (id.add k)=some (.int .i64 (i:Int))):=by
           show∀W,_;intro W b;obtain⟨w1,e,_,hc⟩:=n5.out W b (by rw[ak,<-ac.out];omega);injection e with e;subst e;rw[hc k (by rw[ak,<-ac.out];exact ez),bw,<-c7]
          obtain⟨dv,n7,n8,n9⟩:=gC.out (by rw[ak,er.out];omega);have g0:=n9 k (by rw[ak,er.out];exact ez);rw[bw]at g0;have t0:Hid (V.getD k 0<S):=tq.out k;have g1:Hid (V.getD k 0≠0->rcW S P l d V (k+1)=(rcW S P l d V k).set i (aM S P (l.getD i 0) (V.getD k 0))):=by
           show _->_;intro X;show(if V.getD k 0=0 then _ else _)=_;rw[if_neg X,c7]
          have g2:Hid (V.getD k 0≠0->jc d V (k+1)=jc d V k++[i]):=by
           show _->_;intro X;show(if V.getD k 0=0 then _ else _)=_;rw[if_neg X,c7]
          have g3:Hid (V.getD k 0=0->rcW S P l d V (k+1)=rcW S P l d V k/\jc d V (k+1)=jc d V k):=by
           show _->_;intro X;exact⟨by show(if V.getD k 0=0 then _ else _)=_;rw[if_pos X],by show(if V.getD k 0=0 then _ else _)=_;rw[if_pos X]⟩
          have vs:Hid ((rcW S P l d V k).length=n):=by show _=_;rw[lN,al.out]
          obtain⟨t1,rfl,p3,p4⟩:=(ty.out wr bv.out) (by rw[ak,<-al.out];omega);have g4:=p4 i (by rw[ak,<-al.out];exact pu);rw[bw]at g4;have t2:Hid (l.getD i 0<S):=cg.out i;have g5:=bx.out.2 i (by rw[vs.out];exact pu);have c5:=bx.out.1;have oa:Hid (zl (jc d V k)++zl [i]=zl (jc d V k++[i])):=Dx _ _;generalize V.getD k 0=x at*;generalize l.getD i 0=y at*;generalize(rcW S P l d V k).getD i 0=u at*;have w5:=Lib.hid n7;clear p0 n9 p4 c7;subst n7;by_cases g6:x=0
          ·subst g6;obtain⟨e1,e2⟩:=g3.out rfl;have f2:=Lib.hid e1;have b6:=Lib.hid e2;clear e1 e2 g3 g1 g2;go_wp2;exact⟨⟨k+1,m,M,cc,by omega,by omega,by go_num,by rw[b6.out];exact ef,bv,c6,by rw[f2.out];exact bx,gC,by rw[b6.out];exact d6,n6⟩,by simp[intOf];omega⟩
          ·have bq:((x:Int)==0)=false:=by rw[beq_eq_false_iff_ne];omega
           have eh:((x:Int)!=0)=true:=by rw[bne,bq];rfl
           have f2:=Lib.hid (g1.out g6);have b6:=Lib.hid (g2.out g6);have g7:Hid (∀W,af wr W->(W.cell? ⟨c+1+1,0,none⟩=some (.int .i64 C)/\W.cell? ⟨c+1+1,1,none⟩=some (.int .i64 S)/\W.cell? ⟨c+1+1,2,none⟩=some (.int .i64 P))/\W.cell? ⟨a,0,none⟩=some (.slice (some ⟨wb,0,none⟩) n cw)/\W.cell? (id.add k)=some (.int .i64 (i:Int))/\W.cell? (dv.add k)=some (.int .i64 (x:Int))/\W.cell? (t1.add i)=some (.int .i64 (y:Int))/\W.cell? ⟨wb,i,none⟩=some (.int .i64 (u:Int))/\W.frozen? ⟨wb,i,none⟩=false):=by
            show∀W,_;intro W b;exact⟨(n0.out W (aa bv.out b)).2,(c6.out.below b).cell 0 _ rfl,(b.cell (by rw[aI];exact pv)).trans gD,(b.cell (by rw[aI];exact n8)).trans g0,(b.cell (by rw[aI];exact p3)).trans g4,(b.cell c5).trans g5.1,(b.frozen c5).trans g5.2⟩
           clear g3 g1 g2 gD g4 g5 pv n8 p3 c5;go_wp2;clear bq eh g0;refine bj (S:=af wr) 20 oK oK (ai (Below.refl _ _)) ?_;simp only[List.take_succ_cons,List.take_zero,List.drop_succ_cons,List.drop_zero]
           repeat refine kO g7.out ?_
           refine kX (λW b=>oH C S P y x W B.out.vf t2.out t0.out) ?_
           repeat refine kO g7.out ?_
           refine bR ?_;intro ex d0;have ca:=Lib.hid d0;clear d0;obtain⟨-,-,-,-,-,t3,t4⟩:=g7.out ex ca.out;have fc:=Lib.hid ((c6.out.below ca.out).su wb i (.int .i64 ((aM S P y x:Nat):Int)) (λe=>gy.out e.symm));have kd:=Lib.hid ((bx.out.below ca.out).set i (aM S P y x));rw[<-f2.out]at kd;have q4:=Lib.hid ((gC.out.below ca.out).su wb i (.int .i64 ((aM S P y x:Nat):Int)) ts.out);have ap:=Lib.hid (lX (ao d6.out ca.out) wb i (.int .i64 ((aM S P y x:Nat):Int)) b9.out.2);have a9:Hid (af s (ex.setCell ⟨wb,i,none⟩ (.int .i64 ((aM S P y x:Nat):Int)))):=(aa bv.out ca.out).setCell (by have D:=vq.out;exact D) _;have fd:Hid (N.heap.size<=(ex.setCell ⟨wb,i,none⟩ (.int .i64 ((aM S P y x:Nat):Int))).heap.size):=by show _<=_;have D:=n6.out;have K:=ca.out.size;simp;omega
           go_wp2;clear t3 t4;generalize ex.setCell ⟨wb,i,none⟩ (.int .i64 ((aM S P y x:Nat):Int))=H at*;have k5:H.drew.cell? ⟨a,1,none⟩=some (.slice M m cc):=fc.out.cell 1 _ rfl;have k7:(H.alloc (.cells #[.int .i64 (i:Int)] 3)).cell? ⟨a,1,none⟩=some (.slice M m cc):=(fc.out.below (ax _ _)).cell 1 _ rfl;have w2:m<=8000:=oO;refine pn (S:=λW=>af s W) (.br [(false,0),(false,2),(false,3),(false,4),(false,5)] [1,6] (λk=>if k=1 then .last [(true,6),(true,7),(false,8),(true,9)]else .last [(true,1),(true,7),(false,8),(true,9)])) oK oK a9.out.drew ?_;simp only[wpTree,attachW,List.getElem?_cons_zero,List.getElem?_cons_succ]
           repeat refine zO gN.out ?_
           refine ag ?_;intro wq ob;simp only[List.mem_cons,List.not_mem_nil,or_false]at ob;rcases ob with rfl|rfl
           ·simp only[reduceIte,Nat.reduceEqDiff,wpTree,attachW,List.getElem?_cons_zero,List.getElem?_cons_succ];refine' zQ (v:= .slice M m cc) (w':=H.drew) rfl (by go_simp) a9.out.drew ?_;refine ag ?_
            (try simp only[reduceIte,Nat.reduceEqDiff,wpTree,attachW,List.getElem?_cons_zero,List.getElem?_cons_succ])
            refine' zQ (v:= .slice (some ⟨H.drew.heap.size,0,none⟩) 1 1) (w':=H.drew.alloc (.cells #[.int .i64 (i:Int)] 3)) rfl (by go_simp) (ah a9.out.drew _) ?_;clear k5 k7;have J:Hid (af H (H.drew.alloc (.cells #[.int .i64 (i:Int)] 3))):=ah (ai (Below.refl _ _)) _;have g8:Hid (RD (H.drew.alloc (.cells #[.int .i64 (i:Int)] 3)) (some ⟨H.drew.heap.size,0,none⟩) (zl [i])):=RD.lit H.drew [i] 3 _ rfl;refine' j3 (ys:=zl [i]) (ao ap.out J.out) (Nat.le_trans fd.out J.out.size) rfl _ _ rfl rfl rfl rfl (Nat.le_refl _) g8.out oO ?_;intro p r o E hg Z;have a8:Hid (af s o):=(aa a9.out J.out).grown hg (Nat.le_trans a9.out.size J.out.size) (λg ab=>Nat.le_trans nz.out (ap.out.lt g ab).1);have g9:Hid (o.ownsRow N.heap.size 3 1 (.slice p (m+1) r) (m+1) ((zl (jc d V (k+1))).map (Value.int .i64))):=by
             show World.ownsRow _ _ _ _ _ _ _;rw[b6.out,<-oa.out];exact E
            have cb:Hid (ae o a #[.slice (some ⟨wb,0,none⟩) n cw,.slice M m cc] 98):=(fc.out.below J.out).grown hg (λe=>by have D:=(ap.out.lt a e.symm).1;have K:=b9.out.1;omega);have i6:Hid (ba o wb (rcW S P l d V (k+1))):=(kd.out.below J.out).grown hg (λe=>by have D:=(ap.out.lt wb e.symm).1;have K:=b9.out.2;omega);have i7:Hid (RD o (some dv) (zl V)):=(q4.out.below J.out).grown hg (λz e e2=>by have D:=(ap.out.lt z.block e2.symm).1;have K:=nx.out oO z e;omega);have i8:Hid (N.heap.size<=o.heap.size):=Nat.le_trans (Nat.le_trans fd.out J.out.size) hg.size;have c1:o.cell? ⟨a,1,none⟩=some (.slice M m cc):=cb.out.cell 1 _ rfl;have a6:o.frozen? ⟨a,1,none⟩=false:=frozen_of_row _ _ _ _ _ cb.out;clear E hg Z;refine⟨a8.out,?_⟩;simp only[yQ,yU,yX,yY]
            repeat refine zO gN.out ?_
            refine' aY rfl (kx rfl ⟨a,1,none⟩ p (m+1) r rfl rfl c1 a6) (a8.out.setCell d4.out _) ?_;simp only[yQ,yU,yX,yY];refine ag ?_
            have O:Hid (af s (o.setCell ⟨a,1,none⟩ (.slice p (m+1) r))/\ae (o.setCell ⟨a,1,none⟩ (.slice p (m+1) r)) a #[.slice (some ⟨wb,0,none⟩) n cw,.slice p (m+1) r] 98/\ba (o.setCell ⟨a,1,none⟩ (.slice p (m+1) r)) wb (rcW S P l d V (k+1))/\RD (o.setCell ⟨a,1,none⟩ (.slice p (m+1) r)) (some dv) (zl V)/\(o.setCell ⟨a,1,none⟩ (.slice p (m+1) r)).ownsRow N.heap.size 3 1 (.slice p (m+1) r) (m+1) ((zl (jc d V (k+1))).map (Value.int .i64))/\N.heap.size<=(o.setCell ⟨a,1,none⟩ (.slice p (m+1) r)).heap.size):=
             ⟨a8.out.setCell d4.out _,cb.out.jn (i:=1) _,i6.out.other ⟨a,1,none⟩ _ (λe=>gy.out e),i7.out.su a 1 _ np.out,lX g9.out a 1 _ b9.out.1,by have D:=i8.out;simp;exact D⟩
            generalize o.setCell ⟨a,1,none⟩ (.slice p (m+1) r)=sm at*;have ib:Hid (m+1=(jc d V (k+1)).length):=by show _=_;rw[b6.out,List.length_append,<-ef.out];rfl
            clear c1 a6;go_wp2;exact⟨⟨k+1,m+1,p,r,by omega,by omega,by go_num,ib,O.out.1,O.out.2.1,O.out.2.2.1,O.out.2.2.2.1,O.out.2.2.2.2.1,O.out.2.2.2.2.2⟩,by simp[intOf];omega⟩
           ·simp only[reduceIte,Nat.reduceEqDiff,wpTree,attachW,List.getElem?_cons_zero,List.getElem?_cons_succ];refine' zQ (v:= .slice (some ⟨H.drew.heap.size,0,none⟩) 1 1) (w':=H.drew.alloc (.cells #[.int .i64 (i:Int)] 3)) rfl (by go_simp) (ah a9.out.drew _) ?_;refine ag ?_
            (try simp only[reduceIte,Nat.reduceEqDiff,wpTree,attachW,List.getElem?_cons_zero,List.getElem?_cons_succ])
            refine' zQ (v:= .slice M m cc) (w':=H.drew.alloc (.cells #[.int .i64 (i:Int)] 3)) rfl (by go_simp) (ah a9.out.drew _) ?_;clear k5 k7;have J:Hid (af H (H.drew.alloc (.cells #[.int .i64 (i:Int)] 3))):=ah (ai (Below.refl _ _)) _;have g8:Hid (RD (H.drew.alloc (.cells #[.int .i64 (i:Int)] 3)) (some ⟨H.drew.heap.size,0,none⟩) (zl [i])):=RD.lit H.drew [i] 3 _ rfl;refine' j3 (ys:=zl [i]) (ao ap.out J.out) (Nat.le_trans fd.out J.out.size) rfl _ _ rfl rfl rfl rfl (Nat.le_refl _) g8.out oO ?_;intro p r o E hg Z;have a8:Hid (af s o):=(aa a9.out J.out).grown hg (Nat.le_trans a9.out.size J.out.size) (λg ab=>Nat.le_trans nz.out (ap.out.lt g ab).1);have g9:Hid (o.ownsRow N.heap.size 3 1 (.slice p (m+1) r) (m+1) ((zl (jc d V (k+1))).map (Value.int .i64))):=by
             show World.ownsRow _ _ _ _ _ _ _;rw[b6.out,<-oa.out];exact E
            have cb:Hid (ae o a #[.slice (some ⟨wb,0,none⟩) n cw,.slice M m cc] 98):=(fc.out.below J.out).grown hg (λe=>by have D:=(ap.out.lt a e.symm).1;have K:=b9.out.1;omega);have i6:Hid (ba o wb (rcW S P l d V (k+1))):=(kd.out.below J.out).grown hg (λe=>by have D:=(ap.out.lt wb e.symm).1;have K:=b9.out.2;omega);have i7:Hid (RD o (some dv) (zl V)):=(q4.out.below J.out).grown hg (λz e e2=>by have D:=(ap.out.lt z.block e2.symm).1;have K:=nx.out oO z e;omega);have i8:Hid (N.heap.size<=o.heap.size):=Nat.le_trans (Nat.le_trans fd.out J.out.size) hg.size;have c1:o.cell? ⟨a,1,none⟩=some (.slice M m cc):=cb.out.cell 1 _ rfl;have a6:o.frozen? ⟨a,1,none⟩=false:=frozen_of_row _ _ _ _ _ cb.out;clear E hg Z;refine⟨a8.out,?_⟩;simp only[yQ,yU,yX,yY]
            repeat refine zO gN.out ?_
            refine' aY rfl (kx rfl ⟨a,1,none⟩ p (m+1) r rfl rfl c1 a6) (a8.out.setCell d4.out _) ?_;simp only[yQ,yU,yX,yY];refine ag ?_
            have O:Hid (af s (o.setCell ⟨a,1,none⟩ (.slice p (m+1) r))/\ae (o.setCell ⟨a,1,none⟩ (.slice p (m+1) r)) a #[.slice (some ⟨wb,0,none⟩) n cw,.slice p (m+1) r] 98/\ba (o.setCell ⟨a,1,none⟩ (.slice p (m+1) r)) wb (rcW S P l d V (k+1))/\RD (o.setCell ⟨a,1,none⟩ (.slice p (m+1) r)) (some dv) (zl V)/\(o.setCell ⟨a,1,none⟩ (.slice p (m+1) r)).ownsRow N.heap.size 3 1 (.slice p (m+1) r) (m+1) ((zl (jc d V (k+1))).map (Value.int .i64))/\N.heap.size<=(o.setCell ⟨a,1,none⟩ (.slice p (m+1) r)).heap.size):=
             ⟨a8.out.setCell d4.out _,cb.out.jn (i:=1) _,i6.out.other ⟨a,1,none⟩ _ (λe=>gy.out e),i7.out.su a 1 _ np.out,lX g9.out a 1 _ b9.out.1,by have D:=i8.out;simp;exact D⟩
            generalize o.setCell ⟨a,1,none⟩ (.slice p (m+1) r)=sm at*;have ib:Hid (m+1=(jc d V (k+1)).length):=by show _=_;rw[b6.out,List.length_append,<-ef.out];rfl
            clear c1 a6;go_wp2;exact⟨⟨k+1,m+1,p,r,by omega,by omega,by go_num,ib,O.out.1,O.out.2.1,O.out.2.2.1,O.out.2.2.2.1,O.out.2.2.2.2.1,O.out.2.2.2.2.2⟩,by simp[intOf];omega⟩
         ·obtain rfl:f=k:=oO;rw[tr.out]at bx;rw[vd.out]at ef d6;have p5:Hid ((j1 S P par first l q).length=n):=by show _=_;rw[wu,al.out]
          have vv:Hid (aj S (j1 S P par first l q)):=FQ B.out.vf cg.out;generalize j1 S P par first l q=Q at*
          have v0:Hid (Calls Tryz.prog 168 #[cf C S P par first,.slice (some ⟨wb,0,none⟩) n cw] wr λe w'=>∃v,e= .returned v/\aq w' v (zl (bp S P par first Q))/\Below wr.heap.size wr w'):=xP C S P par first Q n (some ⟨wb,0,none⟩) cw wr B.out p5.out.symm vv.out oO bx.out.rd
          obtain⟨⟨av,a0,a1,a2,a3⟩,-⟩:=n0.out wr bv.out;have k9:wr.cell? ⟨a,0,none⟩=some (.slice (some ⟨wb,0,none⟩) n cw):=c6.out.cell 0 _ rfl;have i9:Hid ((bp S P par first Q).length=par):=by show _=_;unfold bp;simp
          have t5:Hid (∀j,j<par->(bp S P par first Q).getD j 0=fL S P first Q j):=λj ec=>by unfold bp;exact aQ _ _ _ ec
          go_wp2_with(go_at_call 168;refine v0.out.mono ?_;rintro e oi ⟨v20,rfl,qi,qr⟩;obtain⟨ws,ct,rfl,-,-,oj⟩:=aq.nat qi;rw[i9.out];have d2:=Lib.hid oj;have e0:=Lib.hid qr;clear qi qr oj av a0 a1 a2 a3 k9)
          have qs:Hid (af s oi):=aa bv.out e0.out;have v1:=Lib.hid (c6.out.below e0.out);have v2:=Lib.hid (bx.out.below e0.out);have v3:=Lib.hid (ao d6.out e0.out);clear c6 bx d6 bv;go_loopw [26] (λf3 wr=>∃j:Nat,j<=par/\f3= .int .i64 j/\Hid (af oi wr)/\Hid (∀t,t<j->fL S P first Q t=0)) (λf3 _=>par-(intOf f3).toNat)
          case atStart=>exact⟨0,Nat.zero_le _,rfl,Below.refl _ _,λt la=>by omega⟩
          case round=>
           obtain⟨j,ec,rfl,b8,lc⟩:=hrel;have T:=Lib.hid (tx.out wr (aa qs.out b8.out));have c4:=Lib.hid (vr.out wr (aa qs.out b8.out));have c0:wr.cell? ⟨c+1,0,none⟩=some aH:=T.out.cell 0 _ rfl;have c1:wr.cell? ⟨c+1,1,none⟩=some aH:=T.out.cell 1 _ rfl;have cp:wr.frozen? ⟨c+1,0,none⟩=false:=frozen_of_row _ _ _ _ _ T.out;have a6:wr.frozen? ⟨c+1,1,none⟩=false:=frozen_of_row _ _ _ _ _ T.out;by_cases jp:j<par
           ·obtain⟨wt,rfl,-,ol⟩:=(d2.out.below b8.out) (by rw[ak,i9.out];omega);have la:=ol j (by rw[ak,i9.out];exact jp);rw[bw,t5.out j jp]at la;have jr:=Lib.hid (vp.out j jp);have ih:Hid (fL S P first Q j=0->∀t,t<j+1->fL S P first Q t=0):=by
             show _->_;intro f0 t w3;rcases Nat.lt_or_ge t j with X|X
             ·exact lc.out t X
             ·obtain rfl:t=j:=oO;exact f0
            generalize fL S P first Q j=y at*
            clear ol;by_cases om:y=0
            ·subst om;have t6:=Lib.hid (ih.out rfl);clear ih jr;go_wp2;exact⟨⟨j+1,by omega,by go_num,b8,t6⟩,by simp[intOf];omega⟩
            ·have Y:=Lib.hid (jr.out om);have bq:((y:Int)==0)=false:=by rw[beq_eq_false_iff_ne];omega
             have eh:((y:Int)!=0)=true:=by rw[bne,bq];rfl
             clear ih jr;go_wp2;refine bodyPost_ret (v:= .tuple #[.agg #[aH,aH],.int .i64 17]) (by simp[results,Tryz.results124,go_sem,c0,c1]) rfl ⟨(c4.out.setCell (by have:=am.out;simp;omega) _).setCell (by have:=am.out;simp;omega) _,.inr ⟨Y.out,rfl⟩⟩
           ·obtain rfl:par=j:=oO;have vA:=Lib.hid (vG.out lc.out);have q5:=Lib.hid (v1.out.below b8.out);have k9:wr.cell? ⟨a,0,none⟩=some (.slice (some ⟨wb,0,none⟩) n cw):=q5.out.cell 0 _ rfl;have ww:wr.cell? ⟨a,1,none⟩=some (.slice M m cc):=q5.out.cell 1 _ rfl;have t7:Hid (aq wr (.slice (some ⟨wb,0,none⟩) n cw) (zl Q)):=(v2.out.below b8.out).ints p5.out.symm pf.out.1 pf.out.2;have t8:Hid (aq wr (.slice M m cc) (zl (bP l Q))):=aq.bK (ao v3.out b8.out);have e1:(wr.setCell ⟨c+1,0,none⟩ (.slice (some ⟨wb,0,none⟩) n cw)).cell? ⟨c+1,1,none⟩=some aH:=by rw[World.cell?_setCell_other _ _ _ _ oS];exact c1
            go_wp2;refine bodyPost_ret (v:= .tuple #[.agg #[.slice (some ⟨wb,0,none⟩) n cw,.slice M m cc],.int .i64 0]) (by simp[results,Tryz.results124,go_sem,c0,c1,cp,a6]) rfl ⟨(c4.out.setCell (by have:=am.out;simp;omega) _).setCell (by have:=am.out;simp;omega) _,.inl ⟨Q,_,_,vA.out,rfl,((t7.out.gp _ c0 _).gp _ e1 _),((t8.out.gp _ c0 _).gp _ e1 _)⟩⟩
       ·have Y:=Lib.hid (e9.out (λa7=>nb a7.2.2));have r1:decide ((par:Int)<2* (f:Int))=true:=by simp;omega
        go_wp2;refine bodyPost_ret (v:= .tuple #[.agg #[aH,aH],.int .i64 17]) (by simp[results,Tryz.results124,go_sem,c0,c1]) rfl ⟨(c4.out.setCell (by have:=am.out;simp;omega) _).setCell (by have:=am.out;simp;omega) _,.inr ⟨Y.out,rfl⟩⟩
      ·have Y:=Lib.hid (e9.out (λa7=>na a7.2.1));have bq:((f:Int)==(U:Int))=false:=by rw[beq_eq_false_iff_ne];omega
       have eh:((f:Int)!=(U:Int))=true:=by rw[bne,bq];rfl
       go_wp2;refine bodyPost_ret (v:= .tuple #[.agg #[aH,aH],.int .i64 17]) (by simp[results,Tryz.results124,go_sem,c0,c1]) rfl ⟨(c4.out.setCell (by have:=am.out;simp;omega) _).setCell (by have:=am.out;simp;omega) _,.inr ⟨Y.out,rfl⟩⟩
     ·have Y:=Lib.hid (e9.out (λa7=>m9 a7.1));have bq:((f:Int)==(L:Int))=false:=by rw[beq_eq_false_iff_ne];omega
      have eh:((f:Int)!=(L:Int))=true:=by rw[bne,bq];rfl
      go_wp2;refine bodyPost_ret (v:= .tuple #[.agg #[aH,aH],.int .i64 17]) (by simp[results,Tryz.results124,go_sem,c0,c1]) rfl ⟨(c4.out.setCell (by have:=am.out;simp;omega) _).setCell (by have:=am.out;simp;omega) _,.inr ⟨Y.out,rfl⟩⟩
theorem ti (C S P par first:Nat) (l:List Nat) (n:Nat) (A:Option Addr) (j:Nat) (w:World) (h:dF C S P par first) (hn:n=l.length) (hl:aj S l) (N:par<n) (B:n<=S-1) (r:RD w A (zl l)):
 Calls Tryz.prog 68 #[cf C S P par first,.slice A n j,.slice none 0 0] w (jz S P par first l w):=by
 have O:=Lib.hid h;obtain⟨s3,Q⟩:=h.s3;have a6:=h.p1;have a7:1<=n:=oO;have a8:n<=4095:=oO;have D:=gT w C S P par first
 obtain⟨k,T⟩:∃k,S=k+1:=⟨S-1,by omega⟩;have e1:(S:Int)-1=(k:Int):=oO;have a9:n<=k:=oO;have am:Hid (∀W,af w W->Calls Tryz.prog 122 #[aN C S P,.slice A n j] W λe w'=>e= .returned (.bool true)/\Below W.heap.size W w'):=λW a=>yh C S P l n A j W hn hl oO Q (r.below a);have a1:Hid (∀W eb,af w W->kh W eb n->Calls Tryz.prog 124 #[cf C S P par first,.slice A n j,.slice (some ⟨eb,0,none⟩) n n,.int .i64 0] W (jz S P par first l W)):=λW eb a hb=>Cb C S P par first l n A j eb W h hn hl N B (r.below a) hb
 have o:Hid (Below w.heap.size w ((w.alloc (eT C S P par first)).alloc (.cells #[aH,aH] 98))):=ah (ax _ _) _;have ap:Hid (∀W,af ((w.alloc (eT C S P par first)).alloc (.cells #[aH,aH] 98)) W->ae W (w.heap.size+1) #[aH,aH] 98):=by
  show∀W,_;intro W a;have U:ae ((w.alloc (eT C S P par first)).alloc (.cells #[aH,aH] 98)) (w.heap.size+1) #[aH,aH] 98:=ae.new _ _ _ _ oS;exact U.below a
 have p:Hid (∀W,af ((w.alloc (eT C S P par first)).alloc (.cells #[aH,aH] 98)) W->W.cell? ⟨w.heap.size,0,none⟩=some (.int .i64 C)/\W.cell? ⟨w.heap.size,1,none⟩=some (.int .i64 S)/\W.cell? ⟨w.heap.size,2,none⟩=some (.int .i64 P)/\W.cell? ⟨w.heap.size,3,none⟩=some (.int .i64 par)/\W.cell? ⟨w.heap.size,4,none⟩=some (.int .i64 first)):=λW a=>D.out W (aa (ax _ _) a);obtain⟨c,d,f,g,i⟩:=p.out _ (Below.refl _ _);clear h hl r hn B T D;go_enter Tryz.func68,Tryz.ntmps68
 go_wp2_with(first
  |(go_at_call 121;refine(vt C S P par first _ O.out).mono ?_;rintro e a2 ⟨rfl,G⟩;have t:=Lib.hid G;clear G c d f g i;obtain⟨c,d,f,g,i⟩:=p.out _ t.out)
  |(go_at_call 122;refine(am.out _ (aa o.out t.out)).mono ?_;rintro e a3 ⟨rfl,H⟩;have J:=Lib.hid (aa t.out H);clear H c d f g i;obtain⟨c,d,f,g,i⟩:=p.out _ J.out))
 refine wp_loop_rounds 1 ?_;rw[rounds_succ]
 go_wp2_with(first
  |(go_at_call 123;refine(Ej n _ oO).mono ?_;rintro e a4 ⟨eb,rfl,K,L⟩;have av:=Lib.hid K;have u:=Lib.hid (aa J.out L);clear K L c d f g i;obtain⟨c,d,f,g,i⟩:=p.out _ u.out)
  |(go_at_call 124;refine(a1.out _ eb (aa o.out u.out) av.out).mono ?_;rintro e b ⟨M,X⟩;have x:=Lib.hid (aa u.out M);have q:=Lib.hid (ap.out _ x.out);have c0:b.cell? ⟨w.heap.size+1,0,none⟩=some aH:=q.out.cell 0 _ rfl;have c1:b.cell? ⟨w.heap.size+1,1,none⟩=some aH:=q.out.cell 1 _ rfl;have Y:b.frozen? ⟨w.heap.size+1,0,none⟩=false:=frozen_of_row _ _ _ _ _ q.out;have Z:b.frozen? ⟨w.heap.size+1,1,none⟩=false:=frozen_of_row _ _ _ _ _ q.out;rcases X with⟨v,V,a5,m,rfl,s,y⟩|⟨m,rfl⟩;obtain⟨E,F,e5,-⟩:=aq.nat s;obtain⟨ab,ac,e6,-⟩:=aq.nat y;subst e5;subst e6;have ad:=Lib.hid s;have a0:=Lib.hid y;have al:=Lib.hid m;clear s y m M))
 ·have z:Hid (Below w.heap.size w b):=aa o.out x.out;have e1:(b.setCell ⟨w.heap.size+1,0,none⟩ (.slice E v.length F)).cell? ⟨w.heap.size+1,1,none⟩=some aH:=by rw[World.cell?_setCell_other _ _ _ _ oS];exact c1
  refine bodyPost_ret (v:= .tuple #[.agg #[.slice E v.length F,.slice ab (bP l v).length ac],.int .i64 0]) (by simp[results,Tryz.results68,go_sem,c0,c1,Y,Z]) rfl ⟨(z.out.setCell oS _).setCell oS _,.inl ⟨v,_,_,al.out,rfl,((ad.out.gp _ c0 _).gp _ e1 _),((a0.out.gp _ c0 _).gp _ e1 _)⟩⟩
 ·have z:Hid (Below w.heap.size w b):=aa o.out x.out;refine bodyPost_ret (v:= .tuple #[.agg #[aH,aH],.int .i64 17]) (by simp[results,Tryz.results68,go_sem,c0,c1]) rfl ⟨(z.out.setCell oS _).setCell oS _,.inr ⟨m,rfl⟩⟩
def pO (w:Nat):Nat:=if w=6 then 67 else if w=8 then 301 else if w=10 then 1033 else if w=12 then 4201 else 19
def pK (w:Nat):Prop:=w=4\/w=6\/w=8\/w=10\/w=12
theorem Gk {w:Nat} (h:pK w):VF 2 (2^w) (pO w):=by
 rcases h with rfl|rfl|rfl|rfl|rfl
 ·exact .inr ⟨4,by omega,by omega,by kernel_rfl,rfl,rfl,by kernel_rfl⟩
 ·exact .inr ⟨6,by omega,by omega,by kernel_rfl,rfl,rfl,by kernel_rfl⟩
 ·exact .inr ⟨8,by omega,by omega,by kernel_rfl,rfl,rfl,by kernel_rfl⟩
 ·exact .inr ⟨10,by omega,by omega,by kernel_rfl,rfl,rfl,by kernel_rfl⟩
 ·exact .inr ⟨12,by omega,by omega,by kernel_rfl,rfl,rfl,by kernel_rfl⟩
theorem It {w par:Nat} (h:pK w) (a:1<=par) (b:par<=2^w-2):dF 2 (2^w) (pO w) par 1:=⟨Gk h,a,b,by rcases h with rfl|rfl|rfl|rfl|rfl<;>decide⟩
theorem uk (L:Nat):pK (aB L):=by rcases iE L with h|h|h|h<;>rw[h]<;>simp[pK]
theorem xa {w:Nat} (h:pK w):jM (w:Int) (pO w:Int)=fp 2 ((2^w:Nat):Int) (pO w:Int) 0:=by
 have b:=j5 (Gk h);have a:(1:Int)<=(w:Int)/\(w:Int)<=12:=by rcases h with rfl|rfl|rfl|rfl|rfl<;>omega
 unfold jM qx;have c:gj (pO w:Int) (w:Int)=true:=by rw[<-DD _ _ a.1 a.2,Int.toNat_natCast];exact b
 rw[Int.toNat_natCast,if_pos (by simpa using⟨a,c⟩)]
theorem Fh {L:Nat} {c:Bool} (a:1<=L) (h:L<=32) (hc:c=true->L<=4):bH L c<=2^aB L-1/\17<=bH L c:=by
 cases c with
 |true=>
  have b:=hc rfl;obtain rfl|rfl|rfl|rfl:L=1\/L=2\/L=3\/L=4:=oO
  all_goals decide
 |false=>
  have:∀k,k<33->1<=k->bH k false<=2^aB k-1/\17<=bH k false:=by decide
  exact this L oO a
theorem cV {n i:Nat} {w W:World} {v:Value} (h:Below n w W):Below n w (W.setCell ⟨n,i,none⟩ v):=h.setCell (Nat.le_refl _) _
theorem Ik (w:World):Calls Tryz.prog 110 #[.int .i64 4,.int .i64 19] w λe w'=>e= .returned (.tuple #[.agg #[.int .i64 2,.int .i64 16,.int .i64 19],.int .i64 0])/\Below w.heap.size w w':=by
 have h:=lJ 4 19 w oO;have e:jM 4 19=fp 2 16 19 0:=xa (w:=4) (by simp[pK]);rw[e]at h;exact h
theorem Hd (w:World):Calls Tryz.prog 125 #[.int .i64 4,.int .i64 19] w λe w'=>e= .returned (.tuple #[.agg #[.int .i64 2,.int .i64 16,.int .i64 19],.int .i64 0])/\Below w.heap.size w w':=by
 have h:=Cr 4 19 w oO;have e:jM 4 19=fp 2 16 19 0:=xa (w:=4) (by simp[pK]);rw[e]at h;exact h
theorem rQ (par:Nat) (w:World) (h:dF 2 16 19 par 1):Calls Tryz.prog 61 #[.int .i64 4,.int .i64 par] w λe w'=>e= .returned (.tuple #[cf 2 16 19 par 1,.int .i64 0])/\Below w.heap.size w w':=by
 have j:Hid (∀W,Calls Tryz.prog 111 #[.agg #[.int .i64 2,.int .i64 16,.int .i64 19],.int .i64 par,.int .i64 1] W λe w'=>e= .returned (.tuple #[.agg #[.int .i64 2,.int .i64 16,.int .i64 19,.int .i64 par,.int .i64 1],.int .i64 0])/\Below W.heap.size W w'):=λW=>nP 2 16 19 par 1 W h;have k:Hid (∀W,Calls Tryz.prog 110 #[.int .i64 4,.int .i64 19] W λe w'=>e= .returned (.tuple #[.agg #[.int .i64 2,.int .i64 16,.int .i64 19],.int .i64 0])/\Below W.heap.size W w'):=λW=>Ik W;obtain⟨c,d⟩:∃c,c=w.alloc (.cells #[.int .i64 0,.int .i64 0,.int .i64 0,.int .i64 0,.int .i64 0] 91):=⟨_,rfl⟩;have t:Hid (Below w.heap.size w c):=by show Below _ _ _;rw[d];exact ax _ _
 have u:Hid (ae c w.heap.size #[.int .i64 0,.int .i64 0,.int .i64 0,.int .i64 0,.int .i64 0] 91):=by show ae _ _ _ _;rw[d];exact ae.new _ _ _ _ oS
 clear h;go_enter Tryz.func61,Tryz.ntmps61
 go_wp2_with(first
  |(go_at_call 110;refine(k.out _).mono ?_;rintro e z ⟨rfl,f⟩;rw[<-d]at f;have x:=Lib.hid f;clear f)
  |(go_at_call 111;refine(j.out _).mono ?_;rintro e a ⟨rfl,g⟩;have i:=Lib.hid (aa (ah x.out _) g);clear g;have b:=Lib.hid (u.out.below i.out);have c0:a.cell? ⟨w.heap.size,0,none⟩=some (.int .i64 0):=b.out.cell 0 _ rfl;have c1:a.cell? ⟨w.heap.size,1,none⟩=some (.int .i64 0):=b.out.cell 1 _ rfl;have l:a.cell? ⟨w.heap.size,2,none⟩=some (.int .i64 0):=b.out.cell 2 _ rfl;have m:a.cell? ⟨w.heap.size,3,none⟩=some (.int .i64 0):=b.out.cell 3 _ rfl;have n:a.cell? ⟨w.heap.size,4,none⟩=some (.int .i64 0):=b.out.cell 4 _ rfl;have o:a.frozen? ⟨w.heap.size,0,none⟩=false:=frozen_of_row _ _ _ _ _ b.out;have p:a.frozen? ⟨w.heap.size,1,none⟩=false:=frozen_of_row _ _ _ _ _ b.out;have q:a.frozen? ⟨w.heap.size,2,none⟩=false:=frozen_of_row _ _ _ _ _ b.out;have r:a.frozen? ⟨w.heap.size,3,none⟩=false:=frozen_of_row _ _ _ _ _ b.out;have s:a.frozen? ⟨w.heap.size,4,none⟩=false:=frozen_of_row _ _ _ _ _ b.out))
 have y:Hid (Below w.heap.size w a):=aa t.out i.out;refine bodyPost_ret (v:= .tuple #[cf 2 16 19 par 1,.int .i64 0]) (by simp[results,Tryz.results61,go_sem,c0,c1,l,m,n,o,p,q,r,s]) rfl ⟨rfl,?_⟩;exact cV (cV (cV (cV (cV y.out))))
theorem qC (par:Nat) (w:World):Calls Tryz.prog 69 #[.int .i64 4,.int .i64 par] w λe w'=>e= .returned (cf 2 16 19 par 1)/\Below w.heap.size w w':=by
 have i:Hid (∀W,Calls Tryz.prog 125 #[.int .i64 4,.int .i64 19] W λe w'=>e= .returned (.tuple #[.agg #[.int .i64 2,.int .i64 16,.int .i64 19],.int .i64 0])/\Below W.heap.size W w'):=λW=>Hd W;obtain⟨c,d⟩:∃c,c=w.alloc (.cells #[.int .i64 0,.int .i64 0,.int .i64 0,.int .i64 0,.int .i64 0] 91):=⟨_,rfl⟩;have r:Hid (Below w.heap.size w c):=by show Below _ _ _;rw[d];exact ax _ _
 have s:Hid (ae c w.heap.size #[.int .i64 0,.int .i64 0,.int .i64 0,.int .i64 0,.int .i64 0] 91):=by show ae _ _ _ _;rw[d];exact ae.new _ _ _ _ oS
 go_enter Tryz.func69,Tryz.ntmps69;go_wp2_with(go_at_call 125;refine(i.out _).mono ?_;rintro e a ⟨rfl,f⟩;rw[<-d]at f;have g:=Lib.hid f;clear f;have b:=Lib.hid (s.out.below g.out);have c0:a.cell? ⟨w.heap.size,0,none⟩=some (.int .i64 0):=b.out.cell 0 _ rfl;have c1:a.cell? ⟨w.heap.size,1,none⟩=some (.int .i64 0):=b.out.cell 1 _ rfl;have j:a.cell? ⟨w.heap.size,2,none⟩=some (.int .i64 0):=b.out.cell 2 _ rfl;have k:a.cell? ⟨w.heap.size,3,none⟩=some (.int .i64 0):=b.out.cell 3 _ rfl;have l:a.cell? ⟨w.heap.size,4,none⟩=some (.int .i64 0):=b.out.cell 4 _ rfl;have m:a.frozen? ⟨w.heap.size,0,none⟩=false:=frozen_of_row _ _ _ _ _ b.out;have n:a.frozen? ⟨w.heap.size,1,none⟩=false:=frozen_of_row _ _ _ _ _ b.out;have o:a.frozen? ⟨w.heap.size,2,none⟩=false:=frozen_of_row _ _ _ _ _ b.out;have p:a.frozen? ⟨w.heap.size,3,none⟩=false:=frozen_of_row _ _ _ _ _ b.out;have q:a.frozen? ⟨w.heap.size,4,none⟩=false:=frozen_of_row _ _ _ _ _ b.out;have b0:w.heap.size<a.heap.size:=ar b.out)
 have t:Hid (Below w.heap.size w a):=aa r.out g.out;refine bodyPost_ret (v:=cf 2 16 19 par 1) (by simp[results,Tryz.results69,go_sem,c0,c1,j,k,l,m,n,o,p,q,b0]) rfl ⟨rfl,?_⟩;exact ah (cV (cV (cV (cV (cV t.out))))) _
theorem IG (w:World):Calls Tryz.prog 110 #[.int .i64 6,.int .i64 67] w λe w'=>e= .returned (.tuple #[.agg #[.int .i64 2,.int .i64 64,.int .i64 67],.int .i64 0])/\Below w.heap.size w w':=by
 have h:=lJ 6 67 w oO;have e:jM 6 67=fp 2 64 67 0:=xa (w:=6) (by simp[pK]);rw[e]at h;exact h
theorem FY (par:Nat) (w:World) (h:dF 2 64 67 par 1):Calls Tryz.prog 61 #[.int .i64 6,.int .i64 par] w λe w'=>e= .returned (.tuple #[cf 2 64 67 par 1,.int .i64 0])/\Below w.heap.size w w':=by
 have j:Hid (∀W,Calls Tryz.prog 111 #[.agg #[.int .i64 2,.int .i64 64,.int .i64 67],.int .i64 par,.int .i64 1] W λe w'=>e= .returned (.tuple #[.agg #[.int .i64 2,.int .i64 64,.int .i64 67,.int .i64 par,.int .i64 1],.int .i64 0])/\Below W.heap.size W w'):=λW=>nP 2 64 67 par 1 W h;have k:Hid (∀W,Calls Tryz.prog 110 #[.int .i64 6,.int .i64 67] W λe w'=>e= .returned (.tuple #[.agg #[.int .i64 2,.int .i64 64,.int .i64 67],.int .i64 0])/\Below W.heap.size W w'):=λW=>IG W;obtain⟨c,d⟩:∃c,c=w.alloc (.cells #[.int .i64 0,.int .i64 0,.int .i64 0,.int .i64 0,.int .i64 0] 91):=⟨_,rfl⟩;have t:Hid (Below w.heap.size w c):=by show Below _ _ _;rw[d];exact ax _ _
 have u:Hid (ae c w.heap.size #[.int .i64 0,.int .i64 0,.int .i64 0,.int .i64 0,.int .i64 0] 91):=by show ae _ _ _ _;rw[d];exact ae.new _ _ _ _ oS
 clear h;go_enter Tryz.func61,Tryz.ntmps61
 go_wp2_with(first
  |(go_at_call 110;refine(k.out _).mono ?_;rintro e z ⟨rfl,f⟩;rw[<-d]at f;have x:=Lib.hid f;clear f)
  |(go_at_call 111;refine(j.out _).mono ?_;rintro e a ⟨rfl,g⟩;have i:=Lib.hid (aa (ah x.out _) g);clear g;have b:=Lib.hid (u.out.below i.out);have c0:a.cell? ⟨w.heap.size,0,none⟩=some (.int .i64 0):=b.out.cell 0 _ rfl;have c1:a.cell? ⟨w.heap.size,1,none⟩=some (.int .i64 0):=b.out.cell 1 _ rfl;have l:a.cell? ⟨w.heap.size,2,none⟩=some (.int .i64 0):=b.out.cell 2 _ rfl;have m:a.cell? ⟨w.heap.size,3,none⟩=some (.int .i64 0):=b.out.cell 3 _ rfl;have n:a.cell? ⟨w.heap.size,4,none⟩=some (.int .i64 0):=b.out.cell 4 _ rfl;have o:a.frozen? ⟨w.heap.size,0,none⟩=false:=frozen_of_row _ _ _ _ _ b.out;have p:a.frozen? ⟨w.heap.size,1,none⟩=false:=frozen_of_row _ _ _ _ _ b.out;have q:a.frozen? ⟨w.heap.size,2,none⟩=false:=frozen_of_row _ _ _ _ _ b.out;have r:a.frozen? ⟨w.heap.size,3,none⟩=false:=frozen_of_row _ _ _ _ _ b.out;have s:a.frozen? ⟨w.heap.size,4,none⟩=false:=frozen_of_row _ _ _ _ _ b.out))
 have y:Hid (Below w.heap.size w a):=aa t.out i.out;refine bodyPost_ret (v:= .tuple #[cf 2 64 67 par 1,.int .i64 0]) (by simp[results,Tryz.results61,go_sem,c0,c1,l,m,n,o,p,q,r,s]) rfl ⟨rfl,?_⟩;exact cV (cV (cV (cV (cV y.out))))
theorem Jd (w:World):Calls Tryz.prog 110 #[.int .i64 8,.int .i64 301] w λe w'=>e= .returned (.tuple #[.agg #[.int .i64 2,.int .i64 256,.int .i64 301],.int .i64 0])/\Below w.heap.size w w':=by
 have h:=lJ 8 301 w oO;have e:jM 8 301=fp 2 256 301 0:=xa (w:=8) (by simp[pK]);rw[e]at h;exact h
theorem Hk (par:Nat) (w:World) (h:dF 2 256 301 par 1):Calls Tryz.prog 61 #[.int .i64 8,.int .i64 par] w λe w'=>e= .returned (.tuple #[cf 2 256 301 par 1,.int .i64 0])/\Below w.heap.size w w':=by
 have j:Hid (∀W,Calls Tryz.prog 111 #[.agg #[.int .i64 2,.int .i64 256,.int .i64 301],.int .i64 par,.int .i64 1] W λe w'=>e= .returned (.tuple #[.agg #[.int .i64 2,.int .i64 256,.int .i64 301,.int .i64 par,.int .i64 1],.int .i64 0])/\Below W.heap.size W w'):=λW=>nP 2 256 301 par 1 W h;have k:Hid (∀W,Calls Tryz.prog 110 #[.int .i64 8,.int .i64 301] W λe w'=>e= .returned (.tuple #[.agg #[.int .i64 2,.int .i64 256,.int .i64 301],.int .i64 0])/\Below W.heap.size W w'):=λW=>Jd W;obtain⟨c,d⟩:∃c,c=w.alloc (.cells #[.int .i64 0,.int .i64 0,.int .i64 0,.int .i64 0,.int .i64 0] 91):=⟨_,rfl⟩;have t:Hid (Below w.heap.size w c):=by show Below _ _ _;rw[d];exact ax _ _
 have u:Hid (ae c w.heap.size #[.int .i64 0,.int .i64 0,.int .i64 0,.int .i64 0,.int .i64 0] 91):=by show ae _ _ _ _;rw[d];exact ae.new _ _ _ _ oS
 clear h;go_enter Tryz.func61,Tryz.ntmps61
 go_wp2_with(first
  |(go_at_call 110;refine(k.out _).mono ?_;rintro e z ⟨rfl,f⟩;rw[<-d]at f;have x:=Lib.hid f;clear f)
  |(go_at_call 111;refine(j.out _).mono ?_;rintro e a ⟨rfl,g⟩;have i:=Lib.hid (aa (ah x.out _) g);clear g;have b:=Lib.hid (u.out.below i.out);have c0:a.cell? ⟨w.heap.size,0,none⟩=some (.int .i64 0):=b.out.cell 0 _ rfl;have c1:a.cell? ⟨w.heap.size,1,none⟩=some (.int .i64 0):=b.out.cell 1 _ rfl;have l:a.cell? ⟨w.heap.size,2,none⟩=some (.int .i64 0):=b.out.cell 2 _ rfl;have m:a.cell? ⟨w.heap.size,3,none⟩=some (.int .i64 0):=b.out.cell 3 _ rfl;have n:a.cell? ⟨w.heap.size,4,none⟩=some (.int .i64 0):=b.out.cell 4 _ rfl;have o:a.frozen? ⟨w.heap.size,0,none⟩=false:=frozen_of_row _ _ _ _ _ b.out;have p:a.frozen? ⟨w.heap.size,1,none⟩=false:=frozen_of_row _ _ _ _ _ b.out;have q:a.frozen? ⟨w.heap.size,2,none⟩=false:=frozen_of_row _ _ _ _ _ b.out;have r:a.frozen? ⟨w.heap.size,3,none⟩=false:=frozen_of_row _ _ _ _ _ b.out;have s:a.frozen? ⟨w.heap.size,4,none⟩=false:=frozen_of_row _ _ _ _ _ b.out))
 have y:Hid (Below w.heap.size w a):=aa t.out i.out;refine bodyPost_ret (v:= .tuple #[cf 2 256 301 par 1,.int .i64 0]) (by simp[results,Tryz.results61,go_sem,c0,c1,l,m,n,o,p,q,r,s]) rfl ⟨rfl,?_⟩;exact cV (cV (cV (cV (cV y.out))))
theorem Ha (w:World):Calls Tryz.prog 110 #[.int .i64 10,.int .i64 1033] w λe w'=>e= .returned (.tuple #[.agg #[.int .i64 2,.int .i64 1024,.int .i64 1033],.int .i64 0])/\Below w.heap.size w w':=by
 have h:=lJ 10 1033 w oO;have e:jM 10 1033=fp 2 1024 1033 0:=xa (w:=10) (by simp[pK]);rw[e]at h;exact h
theorem Eo (par:Nat) (w:World) (h:dF 2 1024 1033 par 1):Calls Tryz.prog 61 #[.int .i64 10,.int .i64 par] w λe w'=>e= .returned (.tuple #[cf 2 1024 1033 par 1,.int .i64 0])/\Below w.heap.size w w':=by
 have j:Hid (∀W,Calls Tryz.prog 111 #[.agg #[.int .i64 2,.int .i64 1024,.int .i64 1033],.int .i64 par,.int .i64 1] W λe w'=>e= .returned (.tuple #[.agg #[.int .i64 2,.int .i64 1024,.int .i64 1033,.int .i64 par,.int .i64 1],.int .i64 0])/\Below W.heap.size W w'):=λW=>nP 2 1024 1033 par 1 W h;have k:Hid (∀W,Calls Tryz.prog 110 #[.int .i64 10,.int .i64 1033] W λe w'=>e= .returned (.tuple #[.agg #[.int .i64 2,.int .i64 1024,.int .i64 1033],.int .i64 0])/\Below W.heap.size W w'):=λW=>Ha W;obtain⟨c,d⟩:∃c,c=w.alloc (.cells #[.int .i64 0,.int .i64 0,.int .i64 0,.int .i64 0,.int .i64 0] 91):=⟨_,rfl⟩;have t:Hid (Below w.heap.size w c):=by show Below _ _ _;rw[d];exact ax _ _
 have u:Hid (ae c w.heap.size #[.int .i64 0,.int .i64 0,.int .i64 0,.int .i64 0,.int .i64 0] 91):=by show ae _ _ _ _;rw[d];exact ae.new _ _ _ _ oS
 clear h;go_enter Tryz.func61,Tryz.ntmps61
 go_wp2_with(first
  |(go_at_call 110;refine(k.out _).mono ?_;rintro e z ⟨rfl,f⟩;rw[<-d]at f;have x:=Lib.hid f;clear f)
  |(go_at_call 111;refine(j.out _).mono ?_;rintro e a ⟨rfl,g⟩;have i:=Lib.hid (aa (ah x.out _) g);clear g;have b:=Lib.hid (u.out.below i.out);have c0:a.cell? ⟨w.heap.size,0,none⟩=some (.int .i64 0):=b.out.cell 0 _ rfl;have c1:a.cell? ⟨w.heap.size,1,none⟩=some (.int .i64 0):=b.out.cell 1 _ rfl;have l:a.cell? ⟨w.heap.size,2,none⟩=some (.int .i64 0):=b.out.cell 2 _ rfl;have m:a.cell? ⟨w.heap.size,3,none⟩=some (.int .i64 0):=b.out.cell 3 _ rfl;have n:a.cell? ⟨w.heap.size,4,none⟩=some (.int .i64 0):=b.out.cell 4 _ rfl;have o:a.frozen? ⟨w.heap.size,0,none⟩=false:=frozen_of_row _ _ _ _ _ b.out;have p:a.frozen? ⟨w.heap.size,1,none⟩=false:=frozen_of_row _ _ _ _ _ b.out;have q:a.frozen? ⟨w.heap.size,2,none⟩=false:=frozen_of_row _ _ _ _ _ b.out;have r:a.frozen? ⟨w.heap.size,3,none⟩=false:=frozen_of_row _ _ _ _ _ b.out;have s:a.frozen? ⟨w.heap.size,4,none⟩=false:=frozen_of_row _ _ _ _ _ b.out))
 have y:Hid (Below w.heap.size w a):=aa t.out i.out;refine bodyPost_ret (v:= .tuple #[cf 2 1024 1033 par 1,.int .i64 0]) (by simp[results,Tryz.results61,go_sem,c0,c1,l,m,n,o,p,q,r,s]) rfl ⟨rfl,?_⟩;exact cV (cV (cV (cV (cV y.out))))
theorem Fs (w:World):Calls Tryz.prog 110 #[.int .i64 12,.int .i64 4201] w λe w'=>e= .returned (.tuple #[.agg #[.int .i64 2,.int .i64 4096,.int .i64 4201],.int .i64 0])/\Below w.heap.size w w':=by
 have h:=lJ 12 4201 w oO;have e:jM 12 4201=fp 2 4096 4201 0:=xa (w:=12) (by simp[pK]);rw[e]at h;exact h
theorem EH (par:Nat) (w:World) (h:dF 2 4096 4201 par 1):Calls Tryz.prog 61 #[.int .i64 12,.int .i64 par] w λe w'=>e= .returned (.tuple #[cf 2 4096 4201 par 1,.int .i64 0])/\Below w.heap.size w w':=by
 have j:Hid (∀W,Calls Tryz.prog 111 #[.agg #[.int .i64 2,.int .i64 4096,.int .i64 4201],.int .i64 par,.int .i64 1] W λe w'=>e= .returned (.tuple #[.agg #[.int .i64 2,.int .i64 4096,.int .i64 4201,.int .i64 par,.int .i64 1],.int .i64 0])/\Below W.heap.size W w'):=λW=>nP 2 4096 4201 par 1 W h;have k:Hid (∀W,Calls Tryz.prog 110 #[.int .i64 12,.int .i64 4201] W λe w'=>e= .returned (.tuple #[.agg #[.int .i64 2,.int .i64 4096,.int .i64 4201],.int .i64 0])/\Below W.heap.size W w'):=λW=>Fs W;obtain⟨c,d⟩:∃c,c=w.alloc (.cells #[.int .i64 0,.int .i64 0,.int .i64 0,.int .i64 0,.int .i64 0] 91):=⟨_,rfl⟩;have t:Hid (Below w.heap.size w c):=by show Below _ _ _;rw[d];exact ax _ _
 have u:Hid (ae c w.heap.size #[.int .i64 0,.int .i64 0,.int .i64 0,.int .i64 0,.int .i64 0] 91):=by show ae _ _ _ _;rw[d];exact ae.new _ _ _ _ oS
 clear h;go_enter Tryz.func61,Tryz.ntmps61
 go_wp2_with(first
  |(go_at_call 110;refine(k.out _).mono ?_;rintro e z ⟨rfl,f⟩;rw[<-d]at f;have x:=Lib.hid f;clear f)
  |(go_at_call 111;refine(j.out _).mono ?_;rintro e a ⟨rfl,g⟩;have i:=Lib.hid (aa (ah x.out _) g);clear g;have b:=Lib.hid (u.out.below i.out);have c0:a.cell? ⟨w.heap.size,0,none⟩=some (.int .i64 0):=b.out.cell 0 _ rfl;have c1:a.cell? ⟨w.heap.size,1,none⟩=some (.int .i64 0):=b.out.cell 1 _ rfl;have l:a.cell? ⟨w.heap.size,2,none⟩=some (.int .i64 0):=b.out.cell 2 _ rfl;have m:a.cell? ⟨w.heap.size,3,none⟩=some (.int .i64 0):=b.out.cell 3 _ rfl;have n:a.cell? ⟨w.heap.size,4,none⟩=some (.int .i64 0):=b.out.cell 4 _ rfl;have o:a.frozen? ⟨w.heap.size,0,none⟩=false:=frozen_of_row _ _ _ _ _ b.out;have p:a.frozen? ⟨w.heap.size,1,none⟩=false:=frozen_of_row _ _ _ _ _ b.out;have q:a.frozen? ⟨w.heap.size,2,none⟩=false:=frozen_of_row _ _ _ _ _ b.out;have r:a.frozen? ⟨w.heap.size,3,none⟩=false:=frozen_of_row _ _ _ _ _ b.out;have s:a.frozen? ⟨w.heap.size,4,none⟩=false:=frozen_of_row _ _ _ _ _ b.out))
 have y:Hid (Below w.heap.size w a):=aa t.out i.out;refine bodyPost_ret (v:= .tuple #[cf 2 4096 4201 par 1,.int .i64 0]) (by simp[results,Tryz.results61,go_sem,c0,c1,l,m,n,o,p,q,r,s]) rfl ⟨rfl,?_⟩;exact cV (cV (cV (cV (cV y.out))))
theorem JN (w par:Nat) (W:World) (a:pK w) (b:1<=par) (c:par<=2^w-2):Calls Tryz.prog 61 #[.int .i64 w,.int .i64 par] W λe w'=>e= .returned (.tuple #[cf 2 (2^w) (pO w) par 1,.int .i64 0])/\Below W.heap.size W w':=by
 have h:=It a b c;rcases a with rfl|rfl|rfl|rfl|rfl
 ·exact rQ par W h
 ·exact FY par W h
 ·exact Hk par W h
 ·exact Eo par W h
 ·exact EH par W h
def eH (c:Bool):Nat:=if c=true then 64 else 2048
def dY (c:Bool):Nat:=if c=true then 2 else 5
def fe (c:Bool):Nat:=if c=true then 6 else 11
def du (c:Bool):Nat:=if c=true then 5 else 6
theorem oy (c:Bool) (w:World):Calls Tryz.prog 57 #[.bool c] w λe w'=>e= .returned (.int .i64 ((eH c:Nat):Int))/\w'=w:=by
 cases c
 all_goals
  go_enter Tryz.func57,Tryz.ntmps57;go_wp2;go_ret;exact⟨rfl,rfl⟩
theorem G8 (c:Bool) (w:World):Calls Tryz.prog 64 #[.bool c] w λe w'=>e= .returned (.int .i64 ((eH c:Nat):Int))/\w'=w:=by
 cases c
 all_goals
  go_enter Tryz.func64,Tryz.ntmps64;go_wp2;go_ret;exact⟨rfl,rfl⟩
theorem rp (c:Bool) (w:World):Calls Tryz.prog 58 #[.bool c] w λe w'=>e= .returned (.tuple #[.int .i64 ((dY c:Nat):Int),.int .i64 ((fe c:Nat):Int),.int .i64 ((du c:Nat):Int)])/\w'=w:=by
 cases c
 all_goals
  go_enter Tryz.func58,Tryz.ntmps58;go_wp2;go_ret3;exact⟨rfl,rfl⟩
end
end Go.Proofs.YtmnlkganmgcpbaaGreatDoor
