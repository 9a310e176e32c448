import Derived.Test.YtmnlkganmgcpbaaGreatDoorQi5
import Derived.Laws.IdiomStrings
import Derived.Laws.Tables
set_option maxRecDepth 100000
set_option maxHeartbeats 4000000
set_option linter.unusedVariables false
set_option linter.unusedSectionVars false
set_option linter.unusedSimpArgs false
set_option linter.defProp false
open Go.Value renaming int->I
open Go.IntKind renaming i64->J
open Bool renaming false->R,true->wP,and_eq_true->Az
open Option renaming none->U,some->gk
open Go renaming World->wR,Calls->wS,Value->xf,wpList->y7,execOp->Bq,Operand->HK,run_convert_bytes_back->W6
open Go.Proofs.Tryz renaming prog->w1,underlying181->N1,underlying9->Ul,underlying5->UO,underlying22->UX,underlying219->VZ,underlying218->WG
open Go.RowKit renaming Hid->w2
open Go.RowKit.Below renaming refl->w3
open Nat renaming le_refl->w5,le_trans->x3,lt_or_ge->z6
open _root_ renaming if_neg->w6,if_pos->xl,Option->xv,ByteArray->x2,Array->z8,decide_eq_true_eq->HJ
open List renaming getElem?_cons_zero->w7,getElem?_cons_succ->w8,getElem?_eq_getElem->yv,length_cons->Co,getElem_of_mem->Ux,mem_of_getElem?->Wq
open Go.Result renaming andThen_ok->y2
open Array renaming getElem?_setIfInBounds_ne->Ac,replicate->Uz
open Go.Sem renaming run_bind->Aq,run_pure->AT
open Option.some renaming inj->HV
open Go.Region renaming noSelect->UL,Mode->U5
open Go.Proofs.Tryz
namespace Go.Proofs.YtmnlkganmgcpbaaGreatDoor
section
open Go.RowKit
theorem K5 (x:Nat) (h:x<2^64):Lib.bitLen x=bl x:=by
 induction x using Nat.strongRecOn with
 |_ x b=>
  by_cases a:x=0
  ·subst a;rfl
  ·rw[Lib.bitLen_half x a h,b (x/2) oO oO];by_cases c:x=1
   ·subst c;rfl
   ·have d:x/2≠0:=oO;obtain⟨n,hn⟩:∃n,bl (x/2)=n+1:=⟨bl (x/2)-1,by have:=ic _ d;omega⟩;have e:=(ja (x/2) n).1 oO;have f:=(bc (x/2) (n+1)).1 oO;rw[hn];rw[wN x (n+1) (by rw[Nat.pow_succ];omega) (by rw[Nat.pow_succ];omega)];omega
theorem QI (x:Int) (w:wR) (b:0<=x) (c:x<=9223372036854775807):
 wS w1 219 #[.int .u64 x] w λe a=>e= .returned (I J (bl x.toNat))/\w=a:=by
 refine(Tryz.bits_Len x w b oO).mono ?_;rintro e a ⟨rfl,rfl⟩;exact⟨by rw[K5 _ oO],rfl⟩
theorem Io (x:Int) (a:0<=x) (b:x<=9223372036854775807):bl x.toNat<=63:=
 (bc _ _).2 oO
theorem jT (a:Int) (w:wR) (c:0<=a) (d:a<=9223372036854775807):
 wS w1 188 #[I J a] w λe b=>e= .returned (I J ((bl a.toNat:Int)-1))/\w=b:=by
 have hb:=Io a c d;go_enter func188,ntmps188;go_wp2_with(go_at_call 219;refine(QI _ _ oO oO).mono ?_;rintro e b ⟨rfl,rfl⟩)
 go_ret;exact⟨rfl,rfl⟩
end
section
open Go.RowKit Go.WideMaps Go.Maps
def nx (W:wR) (cb at_ m:Nat):Nat:=match W.cell? ⟨cb,at_* 5+m,U⟩with|some (.int _ x)=>x.toNat|_=>0
def yh (W:wR) (cb at_:Nat):Nat:=nx W cb at_ 0+nx W cb at_ 1+nx W cb at_ 2+nx W cb at_ 3+nx W cb at_ 4
theorem SW.sum {w:wR} {sb cb cap hb:Nat} {p:x2} {C:Nat->Nat->Nat} (h:SW w sb cb cap hb p C) (at_:Nat) (a:at_<=p.size):yh w cb at_=rF C at_:=by
 have k:∀m,m<5->nx w cb at_ m=C at_ m:=λm b=>by unfold nx;rw[h.cz at_ m a b];simp
 unfold yh rF;rw[k 0 oO,k 1 oO,k 2 oO,k 3 oO,k 4 oO]
def zT:xf->Nat
 |.bool wP=>1
 |_=>0
theorem NP:(prog.info? 219).map (·.zero)=gk (gk (.agg #[.slice U 0 0,.slice U 0 0,.slice U 0 0,.slice U 0 0,.slice U 0 0])):=oK
theorem KB:(prog.info? 219).map (·.size)=gk 5:=oK
theorem EN:(prog.info? 218).map (·.size)=gk 1:=oK
structure QS (w wr:wR) (n ob base sb cb cap hb:Nat) (p:x2) (C:Nat->Nat->Nat) (vs:List xf) (L:Nat->List aF) (μ cnt:Nat) (T:Nat->Nat->xv aF):Prop where
 B:Below n w wr
 S:SQ wr sb cb cap hb p C
 A:an wr ob vs
 F:FZ wr ob 5
 V:∀a,a<μ->∃v,vs[a]?=gk v/\wr.ownsRow base 181 7 v (L a).length ((L a).flatMap aF.aN)
 M:dN wr hb cnt T
 l5:vs.length=5
 n1:n<=sb/\n<=cb/\n<=hb
 n2:sb<ob/\cb<ob/\hb<ob
 n3:ob<base
 n4:base<=wr.heap.size
section
variable {w wr W : wR} {n ob base sb cb cap hb : Nat} {p : x2} {C : Nat → Nat → Nat} {vs : List xf} {L : Nat → List aF} {μ cnt : Nat} {T : Nat → Nat → xv aF}
theorem QS.below (h:QS w wr n ob base sb cb cap hb p C vs L μ cnt T) (a:af wr W):QS w W n ob base sb cb cap hb p C vs L μ cnt T:=
 ⟨h.B.trans (a.mono (by have:=h.n1;have:=h.n2;have:=h.n3;have:=h.n4;omega)),h.S.below a,h.A.below a,h.F.below a,λb c=>by obtain⟨v,d,e⟩:=h.V b c;exact⟨v,d,aq e a⟩,h.M.below a,h.l5,h.n1,h.n2,h.n3,x3 h.n4 a.size⟩
theorem nT {base:Nat} {e:TypeId} {sz:Nat} {v:xf} {k:Nat} {c:List xf} (h:wr.ownsRow base e sz v k c) {a:Addr} (l:a.block<base) (u:xf):(wr.setCell a u).ownsRow base e sz v k c:=by
 refine⟨h.1,?_⟩;rcases h.2 with b|⟨d,cap,j,f,b,g,i⟩
 ·exact .inl b
 ·exact .inr ⟨d,cap,j,f,b,(Below.heap_setCell _ _ _ _ oO).trans g,i⟩
theorem QS.cost (h:QS w wr n ob base sb cb cap hb p C vs L μ cnt T) (a m x:Nat) (c:a<=p.size) (d:m<5) (e:x<=1073741824):
 QS w (wr.setCell ⟨cb,a* 5+m,U⟩ (I J (x:Int))) n ob base sb cb cap hb p (oC C a m x) vs L μ cnt T:=by
 have j:=h.n1;have k:=h.n2;have l:=h.n3
 exact⟨h.B.setCell (by show n<=cb;omega) _,h.S.set a m x c d e,h.A.other _ _ (by show ob≠cb;omega),h.F.set _ _,λb f=>by obtain⟨v,g,i⟩:=h.V b f;exact⟨v,g,nT i (by show cb<base;omega) _⟩,h.M.set (by exact h.S.n3) _,h.l5,h.n1,h.n2,h.n3,by simpa using h.n4⟩
theorem QS.slot (h:QS w wr n ob base sb cb cap hb p C vs L μ cnt T) (v:xf) (g:μ<5) (i:wr.ownsRow base 181 7 v (L μ).length ((L μ).flatMap aF.aN)):
 QS w (wr.setCell ⟨ob,μ,U⟩ v) n ob base sb cb cap hb p C (vs.set μ v) L (μ+1) cnt T:=by
 have q:=h.n1;have d:=h.n2;have r:=h.n3
 have hs:=h.S.S;have f:∀b c,b<ob->(wr.setCell ⟨ob,μ,U⟩ v).cell? ⟨b,c,U⟩=wr.cell? ⟨b,c,U⟩:=λb c hb=>World.cell?_setCell_other wr _ _ _ (λe=>by injection e with e1;omega)
 refine⟨h.B.setCell (by show n<=ob;omega) _,⟨⟨by simpa using hs.lt,by rw[f _ _ d.1];exact hs.c0,λc u j=>by rw[f _ _ d.1];exact hs.ct c u j,by rw[f _ _ d.1];exact hs.cc,by rw[f _ _ d.1];exact hs.cm,by simpa using hs.cl,λa m k g=>by rw[f _ _ d.2.1];exact hs.cz a m k g,hs.hc,hs.hp,hs.b⟩,h.S.F.set _ _,h.S.n1,h.S.n2,h.S.n3⟩,
  h.A.set μ v (by rw[h.l5];exact g),h.F.set _ _,λc s=>?_,h.M.set (by show hb≠ob;omega) _,by rw[List.length_set];exact h.l5,h.n1,h.n2,h.n3,by simpa using h.n4⟩
 by_cases e:c=μ
 ·subst e;exact⟨v,by rw[List.getElem?_set_self (by rw[h.l5];exact g)],nT i (by show ob<base;omega) _⟩
 ·obtain⟨u,l,o⟩:=h.V c oO;exact⟨u,by rw[List.getElem?_set_ne (Ne.symm e)];exact l,nT o (by show ob<base;omega) _⟩
theorem QS.put (h:QS w wr n ob base sb cb cap hb p C vs L μ cnt T) {a:Nat->Nat->xv aF} {d:Nat} (hg:wr.grownBy W (gk hb)) (i:dN W hb d a):QS w W n ob base sb cb cap hb p C vs L μ d a:=by
 have o:=h.n1;have r:=h.n2;have s:=h.n3
 refine⟨h.B.grown hg (by have:=h.n4;omega) (λk b=>by injection b with b;omega),h.S.grown hg h.S.n2 h.S.n3,h.A.grown hg (λq hq=>by injection hq with hq;omega),h.F.grown hg (λe=>by injection e with e;omega),λf j=>?_,i,h.l5,h.n1,h.n2,h.n3,x3 h.n4 hg.size⟩;obtain⟨v,l,c⟩:=h.V f j;refine⟨v,l,c.kept hg ?_⟩;cases m:v.ownBlock with
 |none=>exact .inl rfl
 |some g=>right;intro e;injection e with e;have:=(c.lt g m).1;omega
theorem QS.row (h:QS w wr n ob base sb cb cap hb p C vs L μ cnt T) (a:Nat) (m:a<μ):∃A c,vs[a]?=gk (.slice A (L a).length c)/\
 ∀b,b<(L a).length->∃d,A=gk ⟨d,0,U⟩/\∀W,af wr W->∀e,(L a)[b]?=gk e->∀k u,e.aN[k]?=gk u->W.cell? ⟨d,b* 7+k,U⟩=gk u:=by
 obtain⟨v,i,j⟩:=h.V a m;rcases j.2 with⟨rfl,o⟩|⟨d,cap,y,rfl,hb,hg,z,rz,B,x⟩
 ·exact⟨U,0,by rw[o];exact i,λb q=>by omega⟩
 ·refine⟨_,cap,i,λb q=>⟨d,rfl,λW r e s k u f=>?_⟩⟩;have t:k<7:=by
   rcases z6 k 7 with g|g
   ·exact g
   ·rw[List.getElem?_eq_none (by show 7<=k;exact g)]at f;cases f
  have l:=j.cells (g:=d) rfl (b* 7+k) u (by rw[uz _ _ _ _ s t];exact f);rw[add_plain,Nat.zero_add]at l;exact(r.cell (ay hg)).trans l
end
theorem Ew {w:wR} {b c:Nat} {e:TypeId} {sz:Nat} {v:xf} {k:Nat} {d:List xf} (h:w.ownsRow b e sz v k d) (hb:c<=b):w.ownsRow c e sz v k d:=by
 refine⟨h.1,?_⟩;rcases h.2 with a|⟨f,cap,j,g,a,i⟩
 ·exact .inl a
 ·exact .inr ⟨f,cap,j,g,x3 hb a,i⟩
theorem cA {w:wR} {a:Nat} {e:TypeId} {sz:Nat} {v:xf} {k:Nat} {b:List xf} (h:w.ownsRow a e sz v k b):∃A c,v= .slice A k c:=by
 rcases h.2 with⟨rfl,rfl⟩|⟨d,cap,f,rfl,_⟩
 ·exact⟨_,_,rfl⟩
 ·exact⟨_,_,rfl⟩
def sN (e b:Nat->Nat->Nat) (d:x2) (at_:Nat):Prop:=
 (∀a m,a≠at_->b a m=e a m)/\(∀m,m<5->∀c∈cd b d at_ m 32,b at_ m<=c.cu b)/\(∀m,m<5->b at_ m=1073741824\/∃c∈cd b d at_ m 32,c.cu b=b at_ m)
def nn (a:Nat->Nat->Nat) (c:x2) (at_:Nat):Prop:=
 (∀m,m<5->∀b∈cd a c at_ m 32,a at_ m<=b.cu a)/\(∀m,m<5->a at_ m=1073741824\/∃b∈cd a c at_ m 32,b.cu a=a at_ m)
theorem sN.fix {c b:Nat->Nat->Nat} {a:x2} {at_:Nat} (h:sN c b a at_):nn b a at_:=h.2
def eg (a:Nat->Nat->Nat) (b:x2) (at_ m:Nat):xv aF:=(cd a b at_ m 32).find? (λc=>c.cu a==a at_ m)
theorem nn.congr {c g:Nat->Nat->Nat} {d:x2} {at_:Nat} (h:∀a m,at_<=a->g a m=c a m) (k:nn c d at_):nn g d at_:=by
 have e:∀m,cd g d at_ m 32=cd c d at_ m 32:=λm=>p7 (λa m o=>h a m oO) 32;have l:∀m,∀b∈cd c d at_ m 32,b.cu g=b.cu c:=λm b f=>by unfold aF.cu;rw[h _ _ (Bm 32 f)]
 refine⟨λm j b f=>?_,λm j=>?_⟩
 ·rw[e m]at f;rw[l m b f,h _ _ (w5 _)];exact k.1 m j b f
 ·rw[h _ _ (w5 _),e m];rcases k.2 m j with i|⟨b,i,n⟩
  ·exact .inl i
  ·exact .inr ⟨b,i,by rw[l m b i];exact n⟩
theorem find_congr {a:List aF} {q c:aF->Bool} (h:∀b∈a,q b=c b):a.find? q=a.find? c:=by
 induction a with
 |nil=>rfl
 |cons x a d=>
  rw[List.find?_cons,List.find?_cons,h x (List.mem_cons_self ..),d (λb e=>h b (List.mem_cons_of_mem _ e))]
theorem eg.congr {b c:Nat->Nat->Nat} {d:x2} {at_:Nat} (h:∀a m,at_<=a->c a m=b a m) (m:Nat):eg c d at_ m=eg b d at_ m:=by
 unfold eg;rw[p7 (C:=c) (C':=b) (λa m g=>h a m oO) 32];refine find_congr λf e=>?_;unfold aF.cu;rw[h _ _ (Bm 32 e),h _ _ (w5 _)]
theorem L6 {L:List aF} {e:Nat->Nat->Nat} {x c:Nat} {b:aF} (h:∀a,a<c->∀b,L[a]?=gk b->x<=b.cu e) (g:L[c]?=gk b) (i:x<=b.cu e):∀a,a<c+1->∀b,L[a]?=gk b->x<=b.cu e:=by
 intro a k j d;rcases z6 a c with f|f
 ·exact h a f j d
 ·obtain rfl:a=c:=oO;rw[g]at d;injection d with d;rw[<-d];exact i
theorem JZ {b:List aF} {q:aF->Bool}:∀{a:Nat} {c:aF},(∀d,d<a->∀e,b[d]?=gk e->q e=R)->b[a]?=gk c->q c=wP->b.find? q=gk c:=by
 induction b with
 |nil=>intro a c _ h;simp at h
 |cons x b g=>
  intro a c h f hq;cases a with
  |zero=>
   simp only[w7,Option.some.injEq]at f;subst f;rw[List.find?_cons_of_pos hq]
  |succ a=>
   have i:q x=R:=h 0 (Nat.succ_pos _) x rfl;rw[List.find?_cons_of_neg (by rw[i];simp)];exact g (λd j e k=>h (d+1) (Nat.succ_lt_succ j) e (by simpa using k)) (by simpa using f) hq
theorem Mr {a:List aF} {q:aF->Bool} (h:∀b,b<a.length->∀c,a[b]?=gk c->q c=R):a.find? q=U:=by
 rw[List.find?_eq_none];intro f i;obtain⟨g,d,e⟩:=Ux i;rw[h g d f (by rw[yv d,e])];simp
def TT (b:Nat->Nat->Nat) (c:x2) (at_:Nat) (d:Nat->Nat->xv aF) (e:Nat):Nat->Nat->xv aF:=λa m=>if a=at_ then(if m<e then eg b c at_ m else U)else d a m
theorem TT.zero {d:Nat->Nat->Nat} {f:x2} {at_:Nat} {b:Nat->Nat->xv aF} {a m:Nat} {c:aF} (h:TT d f at_ b 0 a m=gk c):b a m=gk c:=by
 unfold TT at h;by_cases e:a=at_
 ·rw[xl e,w6 oO]at h;cases h
 ·rwa[w6 e]at h
theorem TT.none_ {c:Nat->Nat->Nat} {d:x2} {at_ b:Nat} {f:Nat->Nat->xv aF} (hn:eg c d at_ b=U) {a m:Nat} {g:aF} (h:TT c d at_ f (b+1) a m=gk g):TT c d at_ f b a m=gk g:=by
 unfold TT at h⊢;by_cases e:a=at_
 ·rw[xl e]at h⊢;by_cases e2:m<b
  ·rw[xl oO]at h;rw[xl e2];exact h
  ·by_cases e3:m<b+1
   ·rw[xl e3]at h;obtain rfl:m=b:=oO;rw[hn]at h;cases h
   ·rw[w6 e3]at h;cases h
 ·rw[w6 e]at h⊢;exact h
theorem TT.some_ {d:Nat->Nat->Nat} {f:x2} {at_ b:Nat} {g:Nat->Nat->xv aF} {x:aF} (hn:eg d f at_ b=gk x) {a m:Nat} {i:aF} (h:TT d f at_ g (b+1) a m=gk i):yB (TT d f at_ g b) at_ b x a m=gk i:=by
 unfold yB;by_cases c:a=at_/\m=b
 ·rw[xl c];unfold TT at h;rw[xl c.1,xl oO,c.2,hn]at h;exact h
 ·rw[w6 c];unfold TT at h⊢;by_cases e:a=at_
  ·rw[xl e]at h⊢;by_cases e2:m<b
   ·rw[xl oO]at h;rw[xl e2];exact h
   ·rw[w6 oO]at h;cases h
  ·rw[w6 e]at h⊢;exact h
theorem QS.ya {w wr:wR} {n g base i j cap hb:Nat} {b:x2} {c:Nat->Nat->Nat} {k:List xf} {L:Nat->List aF} {d o p:Nat} {e l:Nat->Nat->xv aF} (h:QS w wr n g base i j cap hb b c k L d o e)
 (hc:o<=p) (q:∀a m f,a<=4096->m<5->l a m=gk f->e a m=gk f):QS w wr n g base i j cap hb b c k L d p l:=
 ⟨h.B,h.S,h.A,h.F,h.V,h.M.ya hc q,h.l5,h.n1,h.n2,h.n3,h.n4⟩
theorem Gi {e:z8 Oper} {S:wR->Prop} {K:Act->wR->Prop} {g:List (Bool×Nat×Oper)} {k:Nat} {c:Oper} {a:Act} {W:wR} {hb f:Nat} {i:Nat->Nat->xv aF} (h:dN W hb f i)
 (w:Region.wanted c (yielded e a.tmps)=wP) (m x v:HK) (j:c.op= .mapUpdate 173 m x v) (l:a.eval m= .map (gk hb)) (at_ d:Nat) (n:a.eval x= .agg #[I J (at_:Int),I J (d:Int)]) (y:aF) (o:a.eval v=y.val)
 (p:at_<=4096) (q:d<5) (hc:f<maxLen)
 (r:∀b,dN b hb (f+1) (yB i at_ d y)->W.grownBy b (gk hb)->S b/\bI w1 e S K g (a.put c.dst undef) b):bI w1 e S K ((wP,k,c)::g) a W:=by
 obtain⟨b,z,s,t⟩:=h.put at_ d y p q hc;have u:=r b s t;refine .inl ⟨w,?_⟩;unfold Bq;simp only[j,l,n,o,z,Aq,AT,y2];exact u
theorem Kr (at_:Nat) (w:wR) (n p o cap hb C:Nat) (f:x2) (N:Nat->Nat->Nat) (D:Nat->Nat->xv aF) (av:SQ w p o cap hb f N) (cp:dN w hb C D) (cq:at_<f.size) (hn:n<=p/\n<=o/\n<=hb) (f4:C<=30000):
 wS w1 130 #[.pointer (gk ⟨p,0,U⟩),I J (at_:Int)] w
  λe cr=>e= .returned (.tuple #[])/\∃j,SQ cr p o cap hb f j/\sN N j f at_/\dN cr hb (C+5) (λa m=>if a=at_ then eg j f at_ m else D a m)/\Below n w cr:=by
 have ed:=av.S.hp;have fG:at_<=4096:=oO;have f0:(at_:Int)<(f.size:Int)+1:=oO;have f5:=av.S.hc;obtain⟨L,dx⟩:∃L:Nat->List aF,L=λm=>cd N f at_ m 32:=⟨_,rfl⟩;have b4:=aa dx;have c5:w2 (∀j,(∀a m,a≠at_->j a m=N a m)->∀m,cd j f at_ m 32=L m):=by
  show∀j,_;intro j h m;rw[b4.out];exact p7 (λa m cq=>h a m oO) 32
 have d5:w2 (∀m,m<5->∀b∈L m,okO f b):=by
  show∀m,_;intro m O b s;rw[b4.out]at s;exact sI cq ed O 32 s
 have c6:w2 (QS w (w.alloc (.cells #[.slice U 0 0,.slice U 0 0,.slice U 0 0,.slice U 0 0,.slice U 0 0] 219)) n w.heap.size (w.heap.size+1) p o cap hb f N [.slice U 0 0,.slice U 0 0,.slice U 0 0,.slice U 0 0,.slice U 0 0] L 0 C D):=
  ⟨(ax _ _).mono (by have:=av.S.lt;omega),av.below (ax _ _),an.new _ #[.slice U 0 0,.slice U 0 0,.slice U 0 0,.slice U 0 0,.slice U 0 0] _ _ rfl,FZ.new _ _ _ _ _ rfl,λd dy=>by omega,cp.below (ax _ _),rfl,hn,⟨av.S.lt,av.S.cl,cp.lt⟩,by omega,by simp⟩
 clear av cp dx hn;go_enter func130,ntmps130;go_wp2_with((with_reducible show y7 _ _ _ (⟨_,Op.alloc 219,_,_,_,_⟩::_) _ _);refine bj rfl 219 rfl _ NP ?_)
 generalize w.alloc (.cells #[.slice U 0 0,.slice U 0 0,.slice U 0 0,.slice U 0 0,.slice U 0 0] 219)=fv at*;obtain⟨B,b9⟩:∃B,B=w.heap.size:=⟨_,rfl⟩;obtain⟨base,dv⟩:∃base,base=w.heap.size+1:=⟨_,rfl⟩;rw[<-dv,<-b9]at c6;rw[<-b9];have f1:=aa dv;have f2:=aa b9;clear b9 dv;go_loopw [16] (λE wr=>∃(r:Nat) (j:Nat->Nat->Nat) (t:List xf),r<=5/\E=I J r/\w2 (QS w wr n B base p o cap hb f j t L r C D)/\w2 (∀a m,a≠at_->j a m=N a m)/\w2 (∀m,m<r->j at_ m=1073741824)) (λE _=>5-(intOf E).toNat)
 case atStart=>exact⟨0,N,_,by omega,rfl,c6.out,λ_ _ _=>rfl,λm O=>by omega⟩
 case round=>
  clear c6;obtain⟨r,a0,t,ef,rfl,i,G,b5⟩:=hrel;by_cases z:r<5
  ·have c1:=i.out.S.S.cc;have fw:=i.out.S.S.cz at_ r oO z;have fx:=i.out.S.F.2 (at_* 5+r) oO;have f3:(r:Int)<5:=oO;have c7:w2 (QS w (wr.setCell ⟨o,at_* 5+r,U⟩ (I J 1073741824)) n B base p o cap hb f (oC a0 at_ r 1073741824) t L r C D):=i.out.cost at_ r 1073741824 oO z (w5 _);have ec:w2 (∀a m,a≠at_->oC a0 at_ r 1073741824 a m=N a m):=by
    show∀a m,_;intro a m h;rw[mJ _ _ _ _ _ _ (λe=>h e.1)];exact G.out a m h
   have ew:w2 (∀m,m<r+1->oC a0 at_ r 1073741824 at_ m=1073741824):=by
    show∀m,_;intro m O;by_cases e:m=r
    ·subst e;exact pg _ _ _ _
    ·rw[mJ _ _ _ _ _ _ (λh=>e h.2)];exact b5.out m oO
   clear i G b5;generalize oC a0 at_ r 1073741824=g at*;go_wp2_with(go_at_call 179;refine(Gm at_ r _ p o cap hb f g c7.out.S.S cq z).mono ?_;rintro e P ⟨v,rfl,s⟩;obtain⟨dz,dE,rfl⟩:=cA s.O;have ca:=aa (c7.out.below s.B);have ex:=aa s.O;have d0:=ca.out.F.2 r z;have b6:=ca.out.A.2 r (by rw[ca.out.l5];exact z);generalize t.getD r undef=fz at*;clear s)
   have ey:w2 (QS w (P.setCell ⟨B,r,U⟩ (.slice dz (cd g f at_ r 32).length dE)) n B base p o cap hb f g (t.set r (.slice dz (cd g f at_ r 32).length dE)) L (r+1) C D):=by
    refine ca.out.slot _ z ?_;have M:=Ew ex.out c7.out.n4;have eh:=c5.out g ec.out r;rw[<-eh];exact M
   exact⟨⟨r+1,g,_,by omega,by go_num,ey.out,ec.out,ew.out⟩,by simp[intOf];omega⟩
  ·have bq:r=5:=oO;have d1:w2 (QS w wr n B base p o cap hb f a0 t L 5 C D):=by rw[<-bq];exact i.out
   have d6:w2 (uA a0 L at_):=by
    show uA _ _ _;intro m O;exact .inl (b5.out m oO)
   clear i b5;go_wp2;clear z ef bq;go_loopw [6] (λa1 wr=>∃(x:Bool) (j:Nat->Nat->Nat),a1= .bool x/\w2 (QS w wr n B base p o cap hb f j t L 5 C D)/\w2 (∀a m,a≠at_->j a m=N a m)/\w2 (uA j L at_)/\w2 (x=R->∀m,m<5->∀b∈L m,j at_ m<=b.cu j)) (λa1 wr=>2* yh wr o at_+zT a1)
   case atStart=>exact⟨wP,a0,rfl,d1.out,G.out,d6.out,λh=>by cases h⟩
   case round=>
    clear d1 d6 G;obtain⟨x,g,rfl,i,G,S,cb⟩:=hrel;cases x with
    |true=>
     clear cb;have ea:w2 (yh wr o at_=rF g at_):=i.out.S.S.sum at_ oO;obtain⟨bb,c8⟩:∃bb,bb=rF g at_:=⟨_,rfl⟩;rw[<-c8]at ea;have d7:=aa c8;clear c8;go_wp2_with((with_reducible show y7 _ _ _ (⟨_,Op.load 219 _,_,_,_,_⟩::_) _ _);refine aP rfl 219 _ rfl _ VZ rfl ⟨B,0,U⟩ t (by rw[i.out.l5];exact KB) rfl (gE i.out.A) ?_)
     obtain⟨bd,rfl⟩:∃bd:wR,bd=wr:=⟨_,rfl⟩;go_loopw [6,37] (λa1 E wr=>∃(d:Nat) (x:Bool) (j:Nat->Nat->Nat),d<=5/\E=I J d/\a1= .bool x/\w2 (QS w wr n B base p o cap hb f j t L 5 C D)/\w2 (∀a m,a≠at_->j a m=N a m)/\w2 (uA j L at_)/\w2 (x=R->j=g/\∀m,m<d->∀b∈L m,j at_ m<=b.cu j)/\w2 (x=wP->rF j at_<bb)) (λ_ E _=>5-(intOf E).toNat)
     case atStart=>exact⟨0,R,g,by omega,rfl,rfl,i.out,G.out,S.out,λ_=>⟨rfl,λm O=>by omega⟩,λh=>by cases h⟩
     case round=>
      clear i G S;obtain⟨d,x,b7,dy,rfl,rfl,i,G,S,hF,al⟩:=hrel;by_cases z:d<5
      ·obtain⟨A,c,a7,co⟩:=i.out.row d z;have b1:t.toArray[d]?=gk (.slice A (L d).length c):=by simpa using a7
       have dl:=aa a7;obtain⟨len,ad⟩:∃len,len=(L d).length:=⟨_,rfl⟩;have a8:=aa ad;have fo:len<=1024:=by rw[ad,b4.out];exact tm N f at_ d 32
       rw[<-ad]at b1;have fr:w2 (∀l,l<len->∃T,A=gk ⟨T,0,U⟩/\∀b,(L d)[l]?=gk b->∀k u,b.aN[k]?=gk u->wr.cell? ⟨T,l* 7+k,U⟩=gk u):=by
        show∀l,_;intro l cs;obtain⟨T,e,h⟩:=co l (by rw[<-ad];exact cs);exact⟨T,e,h wr (w3 _ _)⟩
       clear co a7 ad fr;go_wp2_with((with_reducible show y7 _ _ _ (⟨_,Op.index 219 _ _,_,_,_,_⟩::_) _ _);refine jH rfl 219 _ _ rfl 5 218 VZ _ WG rfl EN t.toArray .i64 d d rfl rfl rfl z _ b1 ?_)
       go_loopw [6,43] (λa1 E wr=>∃(l:Nat) (x:Bool) (j:Nat->Nat->Nat),l<=len/\E=I J l/\a1= .bool x/\w2 (QS w wr n B base p o cap hb f j t L 5 C D)/\w2 (∀a m,a≠at_->j a m=N a m)/\w2 (uA j L at_)/\w2 (x=R->j=g/\(∀m,m<d->∀b∈L m,j at_ m<=b.cu j)/\∀F,F<l->∀b,(L d)[F]?=gk b->j at_ d<=b.cu j)/\w2 (x=wP->rF j at_<bb)) (λ_ E _=>len-(intOf E).toNat)
       case atStart=>exact⟨0,x,b7,Nat.zero_le _,rfl,rfl,i.out,G.out,S.out,λh=>⟨(hF.out h).1,(hF.out h).2,λF ek=>by omega⟩,al.out⟩
       case round=>
        clear i G S hF al;obtain⟨l,x,H,cs,rfl,rfl,i,G,S,hF,al⟩:=hrel;by_cases bz:l<len
        ·obtain⟨cv,cx,a9,b3⟩:=i.out.row d z;rw[dl.out]at a9
         obtain⟨rfl,rfl⟩:A=cv/\c=cx:=by
          have M:=HV a9;injection M with cy el c2;exact⟨cy,c2⟩
         obtain⟨T,rfl,b2⟩:=b3 l (by rw[<-a8.out];exact bz);obtain⟨b,s⟩:∃b,(L d)[l]?=gk b:=⟨_,yv (by rw[<-a8.out];exact bz)⟩;have d2:=aa s;have bo:b∈L d:=Wq s;have Q:w2 (okO f b):=d5.out d z b bo;have em:=aa bo;have ce:w2 (∀k u,b.aN[k]?=gk u->wr.cell? ((⟨T,l* 7,U⟩:Addr).add k)=gk u):=by
          show∀k,_;intro k u c3;rw[add_plain];exact b2 wr (w3 _ _) b s k u c3
         have bs:w2 (∀W,af wr W->QS w W n B base p o cap hb f H t L 5 C D):=λW V=>i.out.below V;clear a9 b3 s bo b2 i;obtain⟨Y,bt⟩:∃Y,Y=b.cu H:=⟨_,rfl⟩;obtain⟨Z,a2⟩:∃Z,Z=H at_ d:=⟨_,rfl⟩;have ab:=aa bt;have a3:=aa a2;have ez:w2 (Z<=1073741824):=by show _<=_;rw[a2];exact(bs.out wr (w3 _ _)).S.S.b _ _
         have eA:(d:Int)<5:=oO;have fn:w2 (rF H at_<=bb):=by
          show _<=_;cases x with
          |true=>exact Nat.le_of_lt (al.out rfl)
          |false=>rw[(hF.out rfl).1,<-d7.out];exact w5 _
         clear bt a2;by_cases be:Y<Z
         ·clear hF al
          go_wp2_with(first
           |((with_reducible show y7 _ _ _ (⟨_,Op.load 181 _,_,_,_,_⟩::_) _ _);first|refine aP rfl 181 _ rfl _ N1 rfl ⟨T,l* 7,U⟩ b.aN iE rfl ce.out ?_|refine aP rfl 181 _ rfl _ N1 rfl ⟨wr.heap.size,0,U⟩ b.aN iE rfl (qc _ b _ _ rfl) ?_)
           |((with_reducible show y7 _ _ _ (⟨_,Op.alloc 181,_,_,_,_⟩::_) _ _);refine bj rfl 181 rfl _ oJ ?_)
           |((with_reducible show y7 _ _ _ (⟨_,Op.store 181 _ _,_,_,_,_⟩::_) _ _);refine bG rfl 181 _ _ rfl 181 _ b.aN rfl rfl iE rfl b.one ?_)
           |(go_at_call 180;refine(nk b _ p o cap hb f H (bs.out _ (ax _ _)).S.S Q.out.1 Q.out.2.1 Q.out.2.2.1).mono ?_;rintro e P ⟨rfl,ac⟩;have K:=aa (bs.out P ((ax _ _).trans (ac.mono oS)));have d0:=K.out.S.S.cc;have b6:=K.out.S.S.cz at_ d oO z;have en:=K.out.S.F.2 (at_* 5+d) oO;rw[<-a3.out]at b6;rw[<-ab.out];clear ac))
          have ch:b.cu H<H at_ d:=by rw[<-ab.out,<-a3.out];exact be
          refine⟨⟨l+1,wP,oC H at_ d Y,by omega,by go_num,rfl,K.out.cost at_ d Y oO z (by have:=ez.out;omega),?_,?_,λh=>(by cases h),λ_=>?_⟩,by simp[intOf];omega⟩
          ·show∀a m,_;intro a m h;rw[mJ _ _ _ _ _ _ (λe=>h e.1)];exact G.out a m h
          ·have:=S.out.T4 em.out ch;rw[<-ab.out]at this;exact this
          ·have M:=Pm (C:=H) (a:=at_) z ch;rw[<-ab.out]at M;exact Nat.lt_of_lt_of_le M fn.out
         ·go_wp2_with(first
           |((with_reducible show y7 _ _ _ (⟨_,Op.load 181 _,_,_,_,_⟩::_) _ _);first|refine aP rfl 181 _ rfl _ N1 rfl ⟨T,l* 7,U⟩ b.aN iE rfl ce.out ?_|refine aP rfl 181 _ rfl _ N1 rfl ⟨wr.heap.size,0,U⟩ b.aN iE rfl (qc _ b _ _ rfl) ?_)
           |((with_reducible show y7 _ _ _ (⟨_,Op.alloc 181,_,_,_,_⟩::_) _ _);refine bj rfl 181 rfl _ oJ ?_)
           |((with_reducible show y7 _ _ _ (⟨_,Op.store 181 _ _,_,_,_,_⟩::_) _ _);refine bG rfl 181 _ _ rfl 181 _ b.aN rfl rfl iE rfl b.one ?_)
           |(go_at_call 180;refine(nk b _ p o cap hb f H (bs.out _ (ax _ _)).S.S Q.out.1 Q.out.2.1 Q.out.2.2.1).mono ?_;rintro e P ⟨rfl,ac⟩;have K:=aa (bs.out P ((ax _ _).trans (ac.mono oS)));have d0:=K.out.S.S.cc;have b6:=K.out.S.S.cz at_ d oO z;have en:=K.out.S.F.2 (at_* 5+d) oO;rw[<-a3.out]at b6;rw[<-ab.out];clear ac))
          have ch:H at_ d<=b.cu H:=by rw[<-ab.out,<-a3.out];omega
          exact⟨⟨l+1,x,H,by omega,by go_num,rfl,K.out,G.out,S.out,λh=>⟨(hF.out h).1,(hF.out h).2.1,L6 (hF.out h).2.2 d2.out ch⟩,al.out⟩,by simp[intOf];omega⟩
        ·have ci:l=len:=oO;have e0:w2 (x=R->H=g/\∀m,m<d+1->∀b∈L m,H at_ m<=b.cu H):=by
          show _->_;intro h;obtain⟨am,c4,eq⟩:=hF.out h;refine⟨am,λm O b s=>?_⟩;rcases z6 m d with d3|d3
          ·exact c4 m d3 b s
          ·obtain rfl:m=d:=oO;obtain⟨F,bv,e⟩:=Ux s;exact eq F (by rw[ci,a8.out];exact bv) b (by rw[yv bv,e])
         clear hF;subst ci;go_wp2;exact⟨⟨d+1,x,H,by omega,by go_num,rfl,i.out,G.out,S.out,e0.out,al.out⟩,by simp[intOf];omega⟩
      ·have bq:d=5:=oO;have e9:w2 (x=R->∀m,m<5->∀b∈L m,b7 at_ m<=b.cu b7):=λh m O=>(hF.out h).2 m oO;have fb:w2 (2* yh wr o at_+zT (.bool x)<2* bb+1):=by
        show _<_;rw[i.out.S.S.sum at_ oO];cases x with
        |true=>have:=al.out rfl;show 2* _+1<_;omega
        |false=>rw[(hF.out rfl).1,<-d7.out];show 2* _+0<_;omega
       clear hF al;go_wp2;refine⟨⟨x,b7,rfl,i.out,G.out,S.out,e9.out⟩,?_⟩;show 2* yh wr o at_+zT (.bool x)<2* yh bd o at_+zT (.bool wP);rw[ea.out];exact fb.out
    |false=>
     have bf:w2 (∀m,cd g f at_ m 32=L m):=c5.out g G.out;have d8:w2 (sN N g f at_):=by
      refine⟨G.out,λm O b s=>cb.out rfl m O b (by rw[bf.out m]at s;exact s),λm O=>?_⟩;rcases S.out m O with am|⟨b,am,c4⟩
      ·exact .inl am
      ·exact .inr ⟨b,by rw[bf.out m];exact am,Nat.le_antisymm c4 (cb.out rfl m O b am)⟩
     have ck:w2 (QS w wr n B base p o cap hb f g t L 5 (C+0) (TT g f at_ D 0)):=i.out.ya oO (λa m b _ _ h=>TT.zero h);clear cb i G S c5 b4;go_wp2_with((with_reducible show y7 _ _ _ (⟨_,Op.load 219 _,_,_,_,_⟩::_) _ _);refine aP rfl 219 _ rfl _ VZ rfl ⟨B,0,U⟩ t (by rw[ck.out.l5];exact KB) rfl (gE ck.out.A) ?_)
     go_loopw [73] (λE wr=>∃(d:Nat),d<=5/\E=I J d/\w2 (QS w wr n B base p o cap hb f g t L 5 (C+d) (TT g f at_ D d))) (λE _=>5-(intOf E).toNat)
     case atStart=>exact⟨0,by omega,rfl,ck.out⟩
     case round=>
      clear ck;obtain⟨d,dy,rfl,i⟩:=hrel;by_cases z:d<5
      ·obtain⟨A,c,a7,co⟩:=i.out.row d z;have b1:t.toArray[d]?=gk (.slice A (L d).length c):=by simpa using a7
       have dl:=aa a7;obtain⟨len,ad⟩:∃len,len=(L d).length:=⟨_,rfl⟩;have a8:=aa ad;have fo:len<=1024:=by rw[ad,<-bf.out d];exact tm g f at_ d 32
       rw[<-ad]at b1;clear co a7 ad;go_wp2_with((with_reducible show y7 _ _ _ (⟨_,Op.index 219 _ _,_,_,_,_⟩::_) _ _);refine jH rfl 219 _ _ rfl 5 218 VZ _ WG rfl EN t.toArray .i64 d d rfl rfl rfl z _ b1 ?_)
       obtain⟨bd,rfl⟩:∃bd:wR,bd=wr:=⟨_,rfl⟩;go_loopw [79] (λE wr=>∃(l:Nat),l<=len/\E=I J l/\w2 (QS w wr n B base p o cap hb f g t L 5 (C+d) (TT g f at_ D d))/\w2 (∀F,F<l->∀b,(L d)[F]?=gk b->(b.cu g==g at_ d)=R)) (λE _=>len-(intOf E).toNat)
       case atStart=>exact⟨0,Nat.zero_le _,rfl,i.out,λF ek=>by omega⟩
       case round=>
        clear i;obtain⟨l,cs,rfl,i,hF⟩:=hrel;by_cases bz:l<len
        ·obtain⟨cv,cx,a9,b3⟩:=i.out.row d z;rw[dl.out]at a9
         obtain⟨rfl,rfl⟩:A=cv/\c=cx:=by
          have M:=HV a9;injection M with cy el c2;exact⟨cy,c2⟩
         obtain⟨T,rfl,b2⟩:=b3 l (by rw[<-a8.out];exact bz);obtain⟨b,s⟩:∃b,(L d)[l]?=gk b:=⟨_,yv (by rw[<-a8.out];exact bz)⟩;have d2:=aa s;have bo:b∈L d:=Wq s;have Q:w2 (okO f b):=d5.out d z b bo;have ce:w2 (∀k u,b.aN[k]?=gk u->wr.cell? ((⟨T,l* 7,U⟩:Addr).add k)=gk u):=by
          show∀k,_;intro k u c3;rw[add_plain];exact b2 wr (w3 _ _) b s k u c3
         have dn:w2 ((b.cu g==g at_ d)=wP->eg g f at_ d=gk b):=by
          show _->_;intro h;unfold eg;rw[bf.out d];exact JZ hF.out s h
         have ds:w2 ((b.cu g==g at_ d)=R->∀F,F<l+1->∀b,(L d)[F]?=gk b->(b.cu g==g at_ d)=R):=by
          show _->_;intro h F bv er c9;rcases z6 F l with am|am
          ·exact hF.out F am er c9
          ·obtain rfl:F=l:=oO;rw[s]at c9;rw[<-HV c9];exact h
         clear a9 b3 s bo b2 hF;have a4:w2 (QS w (wr.alloc (.cells b.aN.toArray 181)) n B base p o cap hb f g t L 5 (C+d) (TT g f at_ D d)):=i.out.below (ax _ _);have bi:w2 (an (wr.alloc (.cells b.aN.toArray 181)) wr.heap.size b.aN):=an.new _ b.aN.toArray _ _ rfl;have fc:w2 (hb≠wr.heap.size):=by show _≠_;have:=i.out.M.lt;omega
         clear i
         go_wp2_with(first
          |((with_reducible show y7 _ _ _ (⟨_,Op.load 181 _,_,_,_,_⟩::_) _ _);refine aP rfl 181 _ rfl _ N1 rfl ⟨T,l* 7,U⟩ b.aN iE rfl ce.out ?_)
          |((with_reducible show y7 _ _ _ (⟨_,Op.alloc 181,_,_,_,_⟩::_) _ _);refine bj rfl 181 rfl _ oJ ?_)
          |((with_reducible show y7 _ _ _ (⟨_,Op.store 181 _ _,_,_,_,_⟩::_) _ _);refine bG rfl 181 _ _ rfl 181 _ b.aN rfl rfl iE rfl b.one ?_))
         generalize wr.alloc (.cells b.aN.toArray 181)=X at*;generalize wr.heap.size=a5 at*;obtain⟨Z,a2⟩:∃Z,Z=g at_ d:=⟨_,rfl⟩;have a3:=aa a2;have eA:(d:Int)<5:=oO;have y:w2 (∀W,af X W->W.cell? ⟨p,481,U⟩=gk (.slice (gk ⟨o,0,U⟩) (f.size+1) cap)/\W.cell? ⟨o,at_* 5+d,U⟩=gk (I J (Z:Int))):=by
          show∀W,_;intro W V;have M:=(a4.out.below V).S.S;exact⟨M.cc,by rw[a2];exact M.cz at_ d oO z⟩
         clear a2;obtain⟨Y,bt⟩:∃Y,Y=b.cu g:=⟨_,rfl⟩;have ab:=aa bt;clear bt;by_cases be:Y=Z
         ·have da:=aa (dn.out (by rw[<-ab.out,<-a3.out,be];simp));have es:((Y:Int)==(Z:Int))=wP:=by rw[beq_iff_eq];omega
          clear dn ds be;refine yO (af X) [1,2,4,5,6,7,8,9,10,11,12,0,3,0,13] (ai (w3 _ _)) ?_;refine zO y.out ?_;refine' zV rfl (λW V=>lE 181 _ N1 rfl rfl a5 b.aN iE rfl (bi.out.below V)) ?_;refine zO y.out ?_;refine zO y.out ?_;refine zO y.out ?_;refine zO y.out ?_;refine zO y.out ?_;refine zO y.out ?_;refine zO y.out ?_;refine zO y.out ?_;refine zO y.out ?_;refine zZ ?_;refine(nk b _ p o cap hb f g (a4.out.below (ai (w3 _ _))).S.S Q.out.1 Q.out.2.1 Q.out.2.2.1).mono ?_;rintro e P ⟨rfl,ac⟩;rw[<-ab.out];have ap:w2 (af X P):=(ai (w3 _ _)).trans ac;clear ac;refine⟨_,rfl,ap.out,jO ?_⟩;refine zO y.out ?_;refine aj ?_;have K:w2 (QS w P n B base p o cap hb f g t L 5 (C+d) (TT g f at_ D d)):=a4.out.below ap.out;have bx:w2 (an P a5 b.aN):=bi.out.below ap.out;clear a4 bi y ap;go_wp2;have a6:w2 (∀W,(W.cell? ⟨p,482,U⟩=gk (.map (gk hb))/\an W a5 b.aN)->W.cell? ⟨p,482,U⟩=gk (.map (gk hb))):=λW V=>V.1;refine yO (λW=>W.cell? ⟨p,482,U⟩=gk (.map (gk hb))/\an W a5 b.aN) [1,2,3,4,5,6,8,0,7,9] ⟨K.out.S.S.cm,bx.out.drew⟩ ?_;refine zO a6.out ?_;refine zO a6.out ?_;refine zO a6.out ?_;refine zO a6.out ?_;refine zO a6.out ?_;refine zO a6.out ?_;refine' zV rfl (λW V=>lE 181 _ N1 rfl rfl a5 b.aN iE rfl V.2) ?_;refine' zQ (v:= .agg #[I J (at_:Int),I J (d:Int)]) (w':=P.drew) rfl (by go_simp) ⟨K.out.S.S.cm,bx.out.drew⟩ ?_;refine' Gi (K.out.below (ai (w3 _ _))).M rfl _ _ _ rfl rfl at_ d rfl b rfl oO z oM ?_;intro d4 d9 dd;have de:w2 (QS w d4 n B base p o cap hb f g t L 5 (C+d+1) (yB (TT g f at_ D d) at_ d b)):=(K.out.below (ai (w3 _ _))).put dd d9;refine⟨⟨de.out.S.S.cm,bx.out.drew.grown dd (λq hq=>by injection hq with hq;rw[<-hq];exact fc.out)⟩,?_⟩;have di:w2 (QS w d4 n B base p o cap hb f g t L 5 (C+(d+1)) (TT g f at_ D (d+1))):=de.out.ya oO (λa m b _ _ h=>TT.some_ da.out h);clear K bx de a6 d9 dd;simp only[Act.put];refine aj ?_;go_wp2;exact⟨⟨d+1,by omega,by go_num,di.out⟩,by simp[intOf];omega⟩
         ·have da:=aa (ds.out (by rw[<-ab.out,<-a3.out,beq_eq_false_iff_ne];exact be));have es:((Y:Int)==(Z:Int))=R:=by rw[beq_eq_false_iff_ne];omega
          clear dn ds be;refine yO (af X) [1,2,4,5,6,7,8,9,10,11,12,0,3,0,13] (ai (w3 _ _)) ?_;refine zO y.out ?_;refine' zV rfl (λW V=>lE 181 _ N1 rfl rfl a5 b.aN iE rfl (bi.out.below V)) ?_;refine zO y.out ?_;refine zO y.out ?_;refine zO y.out ?_;refine zO y.out ?_;refine zO y.out ?_;refine zO y.out ?_;refine zO y.out ?_;refine zO y.out ?_;refine zO y.out ?_;refine zZ ?_;refine(nk b _ p o cap hb f g (a4.out.below (ai (w3 _ _))).S.S Q.out.1 Q.out.2.1 Q.out.2.2.1).mono ?_;rintro e P ⟨rfl,ac⟩;rw[<-ab.out];have ap:w2 (af X P):=(ai (w3 _ _)).trans ac;clear ac;refine⟨_,rfl,ap.out,jO ?_⟩;refine zO y.out ?_;refine aj ?_;have K:w2 (QS w P n B base p o cap hb f g t L 5 (C+d) (TT g f at_ D d)):=a4.out.below ap.out;have bx:w2 (an P a5 b.aN):=bi.out.below ap.out;clear a4 bi y ap;go_wp2;exact⟨⟨l+1,by omega,by go_num,K.out,da.out⟩,by simp[intOf];omega⟩
        ·have ci:l=len:=oO;have fd:w2 (eg g f at_ d=U):=by
          show _=_;unfold eg;rw[bf.out d];exact Mr (λF bv=>hF.out F (by rw[ci,a8.out];exact bv))
         have di:w2 (QS w wr n B base p o cap hb f g t L 5 (C+(d+1)) (TT g f at_ D (d+1))):=i.out.ya oO (λa m b _ _ h=>TT.none_ fd.out h);clear i hF;go_wp2;exact⟨⟨d+1,by omega,by go_num,di.out⟩,by simp[intOf];omega⟩
      ·have bq:d=5:=oO;have et:w2 (SQ wr p o cap hb f g/\sN N g f at_/\dN wr hb (C+5) (λa m=>if a=at_ then eg g f at_ m else D a m)/\Below n w wr):=by
        have M:=i.out;rw[bq]at M;refine⟨M.S,d8.out,M.M.ya (w5 _) (λa m b _ O h=>?_),M.B⟩;unfold TT;by_cases e:a=at_
        ·rw[xl e]at h⊢;rw[xl O];exact h
        ·rw[w6 e]at h⊢;exact h
       clear i d8 bf;go_wp2;refine bodyPost_end (results_none rfl _ _ _) rfl ?_;exact⟨rfl,g,et.out⟩
end
section
open Go.RowKit
section
variable {P : Program} {ops : z8 Oper} {md : U5} {S : wR → Prop}
def sB:List (Bool×Nat)->z8 Bool->z8 Bool
 |[],L=>L
 |(_,k)::a,L=>sB a (L.setIfInBounds k wP)
def oZ (md:U5) (ops:z8 Oper):List (Bool×Nat)->z8 Bool->Bool
 |[],_=>wP
 |(wP,k)::a,L=>decide (Region.ready md ops L=[k])&&oZ md ops a (L.setIfInBounds k wP)
 |(R,k)::a,L=>(Region.ready md ops L).contains k&&Region.free md ops L k&&oZ md ops a (L.setIfInBounds k wP)
theorem pU {K K':Act->wR->Prop} (f:UL ops=wP) (n:Nat):∀(d:List (Bool×Nat)) (L:z8 Bool) (a:Act) (w:wR),S w->oZ md ops d L=wP->
 (∀a w,S w->K' a w->mf P md ops S K n (sB d L) a w)->AF P ops S K' d a w->mf P md ops S K (n+d.length) L a w
 |[],L,a,w,b,_,c,h=>c a w b h
 |(wP,k)::e,L,a,w,b,hB,c,h=>by
  simp only[oZ,Az,HJ]at hB;exact vZ hB.1 (yx (λi j p l=>pU f n e _ i j p hB.2 c l) h)
 |(R,k)::e,L,a,w,b,hB,c,h=>by
  simp only[oZ,Az]at hB;obtain⟨q,g,v,m,o⟩:=h;exact vu g (Region.noSelect_spec f) (n+e.length) L a w b (Region.free_spec g hB.1.2) (by simpa using hB.1.1) m (pU f n e _ _ w b hB.2 c o)
theorem nI {b:List Oper} {K:Act->wR->Prop}:∀(g:List (Bool×Nat)) (L:z8 Bool) (a:Act) (w:wR),oZ md b.toArray g L=wP->bI P b.toArray S K (aH b g) a w->AF P b.toArray S K g a w
 |[],_,_,_,_,h=>h
 |(wP,k)::c,L,a,w,hB,h=>by
  simp only[oZ,Az,HJ]at hB;have e:k<b.toArray.size:=oN (md:=md) (listed:=L) (by rw[hB.1];simp);have f:b[k]?=gk b[k]:=yv (by simpa using e);simp only[aH,f]at h;refine⟨b[k],by simp,?_⟩;rcases h with h|h
  ·exact .inl ⟨h.1,mY (λv j d=>⟨d.1,nI c _ _ _ hB.2 d.2⟩) h.2⟩
  ·exact .inr ⟨h.1,h.2.1,nI c _ _ _ hB.2 h.2.2⟩
 |(R,k)::c,L,a,w,hB,h=>by
  simp only[oZ,Az]at hB;have e:k<b.toArray.size:=oN (md:=md) (listed:=L) (by simpa using hB.1.1);have f:b[k]?=gk b[k]:=yv (by simpa using e);simp only[aH,f]at h;obtain⟨v,i,d⟩:=h;exact⟨b[k],by simp,v,i,nI c _ _ _ hB.2 d⟩
inductive OT where
 |last (a:List (Bool×Nat))
 |br (a:List (Bool×Nat)) (b:List Nat) (f:Nat->OT)
def wK (md:U5) (ops:z8 Oper):OT->Nat->z8 Bool->Bool
 |.last a,n,L=>decide (n=a.length)&&oZ md ops a L&&(Region.ready md ops (sB a L)).isEmpty
 |.br a b f,n,L=>decide (a.length+1<=n)&&oZ md ops a L&&decide (Region.ready md ops (sB a L)=b)&&!b.isEmpty&&b.all λk=>wK md ops (f k) (n-a.length-1) ((sB a L).setIfInBounds k wP)
def aT (P:Program) (b:List Oper) (S:wR->Prop) (K:Act->wR->Prop):OT->Act->wR->Prop
 |.last c=>bI P b.toArray S K (aH b c)
 |.br c d f=>bI P b.toArray S (λa w=>∀k∈d,bI P b.toArray S (aT P b S K (f k)) (aH b [(wP,k)]) a w) (aH b c)
theorem o9 {d:List Oper} {K:Act->wR->Prop} (k:UL d.toArray=wP):∀(o:OT) (n:Nat) (L:z8 Bool) (a:Act) (w:wR),S w->wK md d.toArray o n L=wP->aT P d S K o a w->mf P md d.toArray S K n L a w
 |.last b,n,L,a,w,i,hB,h=>by
  simp only[wK,Az,HJ]at hB;rw[hB.1.1,<-Nat.zero_add b.length];exact pU (K':=K) k 0 b L a w i hB.1.2 (λa w _ h=>⟨by simpa using hB.2,h⟩) (nI b L a w hB.1.2 h)
 |.br b y f,n,L,a,w,i,hB,h=>by
  simp only[wK,Az,HJ]at hB;obtain⟨⟨⟨⟨z,p⟩,l⟩,q⟩,s⟩:=hB;have e:n=(n-b.length-1+1)+b.length:=oO;rw[e];refine pU k (n-b.length-1+1) b L a w i p (λa w i h=>?_) (nI b L a w p h);refine⟨by rw[l];intro t;rw[t]at q;simp at q,λg j=>?_⟩;rw[l]at j;have u:g<d.toArray.size:=oN (md:=md) (listed:=sB b L) (by rw[l];exact j);have x:d[g]?=gk d[g]:=yv (by simpa using u);have c:=h g j;simp only[aH,x]at c;have r:=List.all_eq_true.1 s g j;refine⟨d[g],by simp,?_⟩;rcases c with c|c
  ·exact .inl ⟨c.1,mY (λv A m=>⟨m.1,o9 k (f g) _ _ _ _ m.1 r m.2⟩) c.2⟩
  ·exact .inr ⟨c.1,c.2.1,o9 k (f g) _ _ _ _ c.2.1 r c.2.2⟩
theorem nh {f:z8 Oper} {K g:Act->wR->Prop} (h:∀a w,K a w->g a w):∀(c:List (Bool×Nat×Oper)) (a:Act) (w:wR),bI P f S K c a w->bI P f S g c a w
 |[],a,w,d=>h _ _ d
 |(wP,_,i)::c,a,w,d=>by
  rcases d with b|b
  ·exact .inl ⟨b.1,mY (λv j e=>⟨e.1,nh h c _ _ e.2⟩) b.2⟩
  ·exact .inr ⟨b.1,b.2.1,nh h c _ _ b.2.2⟩
 |(R,_,i)::c,a,w,d=>by
  obtain⟨v,b,e⟩:=d;exact⟨v,b,nh h c _ _ e⟩
theorem xG {c:List Oper} {K e:Act->wR->Prop} (h:∀a w,K a w->e a w):∀(d:OT) (a:Act) (w:wR),aT P c S K d a w->aT P c S e d a w
 |.last g,a,w,b=>nh h _ _ _ b
 |.br g m f,a,w,b=>nh (λa w i k j=>nh (λa w l=>xG h (f k) a w l) _ _ _ (i k j)) _ _ _ b
theorem rY {id:Nat} {Q:Exit->Act->wR->Prop} {a:Act} {w:wR} {b:List Oper} (c:OT) (d:P.follows .mixedOrders=wP) (hB:(UL b.toArray&&wK .any b.toArray c b.toArray.size (Uz b.toArray.size R))=wP)
 (e:S w.drew) (h:aT P b S (λf W=>y7 P b.toArray Q [] f W) c a w.drew):(Code.region id b.toArray wP).wp P Q a w:=by
 simp only[Az]at hB;refine wp_region_any d ?_;exact p9 (S:=S) _ _ _ _ (o9 (K:=Q .normal) hB.1 c _ _ a w.drew e hB.2 h)
theorem j8 {id:Nat} {Q:Exit->Act->wR->Prop} {a:Act} {w:wR} {b:List Oper} (c:OT) (e:Act->Act->wR->Prop) (f:P.follows .mixedOrders=wP) (hB:(UL b.toArray&&wK .any b.toArray c b.toArray.size (Uz b.toArray.size R))=wP)
 (g:S w.drew) (h:aT P b S (e a) c a w.drew) (i:∀d W,e a d W->y7 P b.toArray Q [] d W):(Code.region id b.toArray wP).wp P Q a w:=by
 simp only[Az]at hB;refine wp_region_any f ?_;exact p9 (S:=S) _ _ _ _ (o9 (K:=Q .normal) hB.1 c _ _ a w.drew g hB.2 (xG (λd W h=>i d W h) c _ _ h))
end
end
section
open Go.RowKit Go.WideMaps Go.Maps
theorem qn (off:Nat):∀(a:List xf) (s:Nat) (cells:z8 xf),((a.zipIdx s).foldl (λb (x:xf×Nat)=>b.setIfInBounds (off+x.2) x.1) cells).size=cells.size
 |[],_,_=>rfl
 |x::a,s,cells=>by
  rw[List.zipIdx_cons,List.foldl_cons,qn off a (s+1)];simp
theorem r6 (off:Nat):∀(b:List xf) (s:Nat) (cells:z8 xf) (a:Nat),off+s+b.length<=cells.size->
 ((b.zipIdx s).foldl (λd (x:xf×Nat)=>d.setIfInBounds (off+x.2) x.1) cells)[a]?=if off+s<=a/\a<off+s+b.length then b[a-(off+s)]? else cells[a]?
 |[],s,cells,a,_=>by rw[w6 (by simp only[List.length_nil];omega)];rfl
 |x::b,s,cells,a,h=>by
  rw[List.zipIdx_cons,List.foldl_cons,r6 off b (s+1) _ a (by simp only[Co]at h;simp;omega)];simp only[Co]at h⊢;by_cases e:a=off+s
  ·subst e;rw[w6 oO,xl oO,Nat.sub_self,w7,Array.getElem?_setIfInBounds_self_of_lt oO]
  ·by_cases c:off+(s+1)<=a/\a<off+(s+1)+b.length
   ·rw[xl c,xl oO];rw[show a-(off+s)=(a-(off+(s+1)))+1 from by omega,w8]
   ·rw[w6 c,w6 oO];rw[Ac oO]
def AA:z8 xf:=(Value.string ByteArray.empty::cW.toList++[Value.slice U 0 0,Value.map U]).toArray
theorem FF:(prog.info? 175).map (·.zero)=gk (gk (.agg AA)):=oK
theorem Ep:AA.size=483:=oK
theorem DR:(prog.underlying 175).map (λd=>match d with|.struct b=>b.toList.mapM (λf=>(prog.info? f.type).map λa=>(f.offset,a.size))|_=>U)=gk (gk [(0,1),(1,480),(481,1),(482,1)]):=oK
theorem qH (off:Nat) (Z:z8 xf) (v:xf):Array.foldl (λa (x:xf×Nat)=>a.setIfInBounds (off+x.2) x.1) Z #[v].zipIdx=Z.setIfInBounds off v:=rfl
theorem kk (f:x2) (s m:xf) (hs:s.cells=#[s]) (t:m.cells=#[m]):∃cK:z8 xf,prog.built 175 [(0,.string f),(1,.agg fk),(2,s),(3,m)]=gk cK/\cK.size=483/\cK[0]?=gk (.string f)/\(∀a v,fk[a]?=gk v->cK[1+a]?=gk v)/\cK[481]?=gk s/\cK[482]?=gk m:=by
 have g:=FF;have i:=DR;have n:=Ep;have o:=oY;generalize AA=Z at*;generalize fk=b at*;cases j:prog.info? 175 with
 |none=>rw[j]at g;cases g
 |some u=>
  cases l:prog.underlying 175 with
  |none=>rw[l]at i;cases i
  |some d=>
   rw[j]at g;rw[l]at i;have z:u.zero=gk (.agg Z):=HV g;have p:=HV i;cases d<;>(try(simp at p;done))
   rename_i A
   simp only at p;unfold Program.built;rw[j,l];simp only[z,p];have w:(Value.string f).cells=#[.string f]:=rfl;have e1:(Value.agg b).cells=b:=rfl;have e2:(Value.agg Z).cells=Z:=rfl;have q:(Z.setIfInBounds 0 (.string f)).size=483:=by simp[n]
   have key:∀(Y:z8 xf),Y.size=483->(b.zipIdx.foldl (λc (x:xf×Nat)=>c.setIfInBounds (1+x.2) x.1) Y).size=483/\∀a,(b.zipIdx.foldl (λc (x:xf×Nat)=>c.setIfInBounds (1+x.2) x.1) Y)[a]?=if 1<=a/\a<481 then b[a-1]? else Y[a]?:=by
    intro Y k;have hl:b.toList.length=480:=by rw[Array.length_toList];exact o
    have y:b.zipIdx.foldl (λc (x:xf×Nat)=>c.setIfInBounds (1+x.2) x.1) Y=(b.toList.zipIdx 0).foldl (λc (x:xf×Nat)=>c.setIfInBounds (1+x.2) x.1) Y:=by
     rw[<-Array.foldl_toList,Array.toList_zipIdx]
    rw[y];refine⟨by rw[qn];exact k,λa=>?_⟩;rw[r6 1 b.toList 0 Y a (by rw[hl,k];omega),hl];simp only[Nat.add_zero,Array.getElem?_toList]
   have e:=key _ q;simp only[Instr.fill,List.getElem?_toArray,w7,w8,w,e1,e2,hs,t,List.size_toArray,Co,List.length_nil,o,n,ne_eq,not_true_eq_false,decide_false,Bool.false_or];rw[qH,qH,qH];obtain⟨Y,k⟩:∃Y,Y=Array.foldl (λc (x:xf×Nat)=>c.setIfInBounds (1+x.2) x.1) (Z.setIfInBounds 0 (.string f)) b.zipIdx:=⟨_,rfl⟩;rw[<-k]at e⊢;have k3:(Y.setIfInBounds 481 s).size=483:=by simp[e.1]
   rw[w6 oS,w6 (by rw[q];simp),w6 (by rw[e.1];simp),w6 (by rw[k3];simp)];refine⟨_,rfl,by simp[e.1],?_,λa v r=>?_,?_,?_⟩
   ·rw[Ac oO,Ac oO,e.2,w6 oO];simp[n]
   ·have j:a<480:=by rw[<-o];exact(Array.getElem?_eq_some_iff.1 r).1
    rw[Ac oO,Ac oO,e.2,xl oO,Nat.add_sub_cancel_left];exact r
   ·rw[Ac oO];simp[e.1]
   ·simp[e.1]
theorem tC {a:Act} {g:Oper} {W:wR} {x:HK} (j:g.op= .convert 22 9 x) {A:xv Addr} {n c:Nat} {b:List UInt8} (k:a.eval x= .slice A n c) (h:SR vU 0 W A n c b):
 (Bq a.eval g).run w1 W= .ok (.value (.string ⟨b.toArray⟩)) W:=by
 have hn:=h.hn;have l:(convert 22 9 (.slice A n c)).run w1 W= .ok (.string ⟨b.toArray⟩) W:=by
  rcases Nat.eq_zero_or_pos b.length with e|e
  ·have hl:b=[]:=List.eq_nil_of_length_eq_zero e;subst hl;rw[hn];cases A with
   |none=>rw[run_convert_bytes_string W _ _ 5 _ _ _ UX UO Ul];rfl
   |some f=>exact W6 W _ _ 5 f c [] UX UO Ul (λi d=>by simp at d)
  ·obtain⟨f,rfl,_,hc⟩:=h.rd e;rw[hn];exact W6 W _ _ 5 f c b UX UO Ul (λi d=>by rw[hc i d];simp[List.getD,d])
 unfold Bq;simp only[j,k,l,Aq,AT,y2]
def wv (W:wR) (d n:Nat):Prop:=∃b c,W.heap[d]?=gk (.cells b c (0,0))/\∀a,a<5* (n+1)->b[a]?=gk (I J 0)
theorem wv.below {W a:wR} {b n:Nat} (h:wv W b n) (hb:af W a):wv a b n:=by
 obtain⟨f,d,c,e⟩:=h;exact⟨f,d,(hb.block _ (ay c)).trans c,e⟩
theorem PV:(prog.info? 131).map (λa=>(a.zero,a.size,a.bytes))=gk (gk (.agg #[I J 0,I J 0,I J 0,I J 0,I J 0]),5,40):=oK
theorem I8 {a:Act} {d:Oper} {W:wR} {g c:HK} (j:d.op= .makeSlice 172 g c) (n:Nat) (hn:n<=4096) (hl:a.eval g=I J ((n+1:Nat):Int)) (hc:a.eval c=I J ((n+1:Nat):Int)):
 ∃e,(Bq a.eval d).run w1 W= .ok (.value (.slice (gk ⟨W.heap.size,0,U⟩) (n+1) (n+1))) e/\wv e W.heap.size n/\af W e:=by
 obtain⟨k,i,m,o,p⟩:=info_parts PV;have f:=run_make (P:=w1) W 172 131 k _ underlying172 i m .i64 .i64 ((n+1:Nat):Int) ((n+1:Nat):Int) oO (Int.le_refl _) (by rw[p];omega) oO;simp only[Int.toNat_natCast]at f;rw[o]at f;have q:(Bq a.eval d).run w1 W= .ok (.value (.slice (gk ⟨W.heap.size,0,U⟩) (n+1) (n+1))) (W.alloc (.cells (madeCells #[Value.int .i64 0,I J 0,I J 0,I J 0,I J 0] ((n+1)* 5)) 131)):=by
  unfold Bq;simp only[j,hl,hc,f,Aq,AT,y2];rfl
 refine⟨_,q,⟨_,_,heap_alloc_new W _,λb i=>?_⟩,ax _ _⟩;unfold madeCells;rw[Array.getElem?_map,Array.getElem?_range,xl oO];have l:b%5=0\/b%5=1\/b%5=2\/b%5=3\/b%5=4:=oO;show gk (#[Value.int .i64 0,I J 0,I J 0,I J 0,I J 0][b%5]!)=_;rcases l with h|h|h|h|h<;>rw[h]<;>rfl
theorem JC {a:Act} {b:Oper} {W:wR} (c:b.op= .makeMap 173 U):
 (Bq a.eval b).run w1 W= .ok (.value (.map (gk W.heap.size))) (W.alloc (.map #[] 0))/\dN (W.alloc (.map #[] 0)) W.heap.size 0 (λ_ _=>U):=by
 refine⟨?_,.map [],Maps.isMap_empty,World.ownsMap_made _ _ _ _,λa m b _ _ h=>by cases h⟩;unfold Bq;simp only[c,Aq,AT];rfl
theorem kR {a:Act} {e:Oper} {W:wR} {x0 f g i:HK} (j:e.op= .build 175 #[(0,x0),(1,f),(2,g),(3,i)]) {b:x2} {A:xv Addr} {n c:Nat} {d:xv Nat}
 (k:a.eval x0= .string b) (l:a.eval f= .agg fk) (m:a.eval g= .slice A n c) (o:a.eval i= .map d) (cK:z8 xf) (p:prog.built 175 [(0,.string b),(1,.agg fk),(2,.slice A n c),(3,.map d)]=gk cK):
 (Bq a.eval e).run w1 W= .ok (.value (.agg cK)) W:=by
 have q:=run_build (P:=w1) W 175 #[(0,.string b),(1,.agg fk),(2,.slice A n c),(3,.map d)] cK p;unfold Bq;simp only[j,List.map_toArray,List.map_cons,List.map_nil,k,l,m,o,q,Aq,AT,y2]
theorem mN {a:Act} {b:Oper} {W:wR} {x:HK} (c:b.op= .box 175 x) {cK:z8 xf} (d:a.eval x= .agg cK):
 (Bq a.eval b).run w1 W= .ok (.value (.pointer (gk ⟨W.heap.size,0,U⟩))) (W.alloc (.cells cK 175)):=by
 unfold Bq;simp only[c,d,Instr.box,newVar,newRow,Value.cells,Aq,AT];rfl
end
end Go.Proofs.YtmnlkganmgcpbaaGreatDoor
