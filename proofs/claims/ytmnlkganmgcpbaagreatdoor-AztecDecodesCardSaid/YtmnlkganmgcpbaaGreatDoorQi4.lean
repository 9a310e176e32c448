import Derived.Test.YtmnlkganmgcpbaaGreatDoorQi3
import Derived.Maps.Views
import Derived.Maps.OwnSet
import Derived.DeepKeys4
set_option maxRecDepth 100000
set_option maxHeartbeats 4000000
set_option linter.unusedVariables false
set_option linter.unusedSectionVars false
set_option linter.unusedSimpArgs false
set_option linter.defProp false
open Go.Value renaming int->I,string->HN
open Go.IntKind renaming i64->J
open Bool renaming false->R,true->wP
open Option renaming none->U,some->gk,getD_some->HL
open Go renaming World->wR,Calls->wS,Value->xf,wpList->y7,TypeId->Ar,maxLen->HG,Operand->HK,heap_alloc_new->HT,below_setRow->Lq,splice->Uw
open Go.Proofs.Tryz renaming prog->w1,underlying181->N1,underlying3->Uu,underlying214->UP
open Go.RowKit renaming Hid->w2
open Go.RowKit.Below renaming refl->w3
open _root_ renaming ByteArray->x2,Array->z8
open Nat renaming lt_of_lt_of_le->x6,succ_mul->WA
open ByteArray renaming empty->x7
open List renaming flatMap_append->Un,drop_eq_nil_of_le->UJ
open Go.Lib renaming charsB->UK
open Array renaming length_toList->U2
open Go.Proofs.Tryz
namespace Go.Proofs.YtmnlkganmgcpbaaGreatDoor
section
open Go.RowKit
theorem sP {c:Type} {f:c->xf} (a:wR) (b:List c) (e:Ar) (n:Nat) (hn:n=b.length) (d:n<=HG):(a.alloc (.cells (b.map f).toArray e)).ownsRow a.heap.size e 1 (.slice (gk ⟨a.heap.size,0,U⟩) n n) n (b.map f):=by
 refine⟨by simp[hn],.inr ⟨a.heap.size,n,(b.map f).toArray,rfl,Nat.le_refl _,HT a _,Nat.le_refl _,d,by simp[hn],by show List.take (n* 1) (b.map f)=_;exact List.take_of_length_le (by simp[hn])⟩⟩
theorem pq (s:x2) (w:wR) (hs:s.size<=1000) (d:s.data.toList.all (λb=>decide (b.toNat<128))=wP):
 wS w1 178 #[.string s,.string x7] w λe a=>∃A c,e= .returned (.slice A s.size c)/\SR HN x7 a A s.size c (UK s)/\af w a:=by
 have hl:s.size=(UK s).length:=(Lib.charsUpTo_length s s.size).symm;refine(Tryz.strings_Split_chars s x7 w rfl oO (λf b hb=>?_)).mono ?_
 ·rw[List.all_eq_true]at d;exact of_decide_eq_true (d b (List.mem_of_getElem? hb))
 ·rintro e a ⟨rfl,rfl⟩;exact⟨_,_,rfl,SR.lit (w.iter s s.size) (UK s) 9 _ _ rfl hl oM,(ax w _).trans ((ax _ _).mono (by show _<=(w.heap.push _).size;simp))⟩
abbrev Hu:x2:=⟨#[65,66,67,68,69,70,71,72,73,74,75,76,77,78,79,80,81,82,83,84,85,86,87,88,89,90]⟩
abbrev IQ:x2:=⟨#[97,98,99,100,101,102,103,104,105,106,107,108,109,110,111,112,113,114,115,116,117,118,119,120,121,122]⟩
abbrev It:x2:=⟨#[1,2,3,4,5,6,7,8,9,10,11,12,13,27,28,29,30,31,64,92,94,95,96,124,126,127]⟩
abbrev IM:x2:=⟨#[33,34,35,36,37,38,39,40,41,42,43,44,45,46,47,58,59,60,61,62,63,91,93,123,125]⟩
abbrev E5:x2:=⟨#[48,49,50,51,52,53,54,55,56,57,44,46]⟩
abbrev ph:x2:=⟨#[32]⟩
abbrev PD:List x2:=[⟨#[13]⟩,⟨#[13,10]⟩,⟨#[46,32]⟩,⟨#[44,32]⟩,⟨#[58,32]⟩]
def texts:Nat->List x2
 |0=>[ph]++UK Hu
 |1=>[ph]++UK IQ
 |2=>[ph]++UK It
 |3=>PD++UK IM
 |_=>[ph]++UK E5
abbrev mc (kind a:Int) (text:x2):List xf:=[I J kind,I J a,.string text]
def cW:z8 xf:=(List.replicate 160 (mc 0 0 x7)).flatten.toArray
theorem Dt:(prog.info? 170).map (·.zero)=gk (gk (.agg cW)):=oK
def iV (b:z8 xf) (a:Nat) (c:List xf):z8 xf:=(Uw b.toList (3* a) c).toArray
theorem L8 (a:z8 xf) (b:Nat) (c:List xf) (h:3* b+c.length<=a.size):(iV a b c).size=a.size:=by
 unfold iV;rw[List.size_toArray,length_splice _ _ _ (by simpa using h)];simp
def yu (c:z8 xf) (b:List x2) (base:Nat):Nat->z8 xf
 |0=>c
 |a+1=>iV (yu c b base a) (base+a+1) (mc 1 0 (b.getD a x7))
def s6:Nat->z8 xf
 |0=>cW
 |k+1=>yu (s6 k) (texts k) (32* k) (texts k).length
theorem qA:cW.size=480:=oK
theorem Ln:∀k,(texts k).length<=31
 |0=>by decide
 |1=>by decide
 |2=>by decide
 |3=>by decide
 |_+4=>by show([ph]++UK E5).length<=31;decide
theorem GJ (w:wR) (b:Nat) (c:z8 xf) (a:Addr) (h:a.block≠b):(w.setRow b c).cell? a=w.cell? a:=by
 unfold World.cell?;rw[setRow_other w b a.block c h]
theorem fV (k m:Int) (b:x2):∀v∈mc k m b,v.oneCell'=wP:=by
 intro v a;simp only[List.mem_cons,List.not_mem_nil,or_false]at a;rcases a with rfl|rfl|rfl<;>rfl
theorem Jl {a:Type} (b:List a) (d:Nat) (c:List a) (v:a) (h:v∈Uw b d c):v∈b\/v∈c:=by
 unfold Uw at h;simp only[List.mem_append]at h;rcases h with h|h|h
 ·exact .inl (List.mem_of_mem_take h)
 ·exact .inr h
 ·exact .inl (List.mem_of_mem_drop h)
structure TS (w wr:wR) (cs a:z8 xf):Prop where
 B:af w wr
 R0:ag wr w.heap.size cW 170
 R1:ag wr (w.heap.size+1) a 170
 X:∀k,k<5->∃A n c,cs[k]?=gk (.slice A n c)/\SR HN x7 wr A n c (texts k)/\∀b,A=gk b->w.heap.size+2<=b.block
 Z:a.size=480
 O:∀v∈a.toList,v.oneCell'=wP
theorem TS.fit {w wr:wR} {b a:z8 xf} (h:TS w wr b a) {f:Nat} {ce:List xf} (c:ce.length=3) (d:f+3<=480):f+ce.length<=a.size:=by rw[c,h.Z];exact d
theorem TS.put {w wr:wR} {g d:z8 xf} (h:TS w wr g d) (f b:Nat) (ce:List xf) (p:f=3* b) (x:b<160) (i:ce.length=3) (a:∀v∈ce,v.oneCell'=wP):
 TS w (wr.setRow (w.heap.size+1) (Uw d.toList f ce).toArray) g (iV d b ce):=by
 subst p;show TS w (wr.setRow (w.heap.size+1) (iV d b ce)) g (iV d b ce);refine⟨Lq h.B oO _,h.R0.other _ oO,h.R1.set _,λk q=>?_,?_,λv r=>?_⟩
 ·obtain⟨A,n,c,i,a,l⟩:=h.X k q;refine⟨A,n,c,i,⟨a.hn,a.hc,a.hm,λhn=>?_⟩,l⟩;obtain⟨m,e,s,t⟩:=a.rd hn;have y:=l m e;refine⟨m,e,by rw[size_setRow];exact s,λo u=>?_⟩;rw[GJ _ _ _ _ (by rw[aD];omega)];exact t o u
 ·rw[L8 _ _ _ (by rw[i,h.Z];omega),h.Z]
 ·rcases Jl _ _ _ _ (by simpa[iV]using r)with j|j
  ·exact h.O v j
  ·exact a v j
theorem TS.TK {w wr:wR} {b a:z8 xf} (h:TS w wr b a) (f:Nat) (ce:List xf) (e:f%3=0) (g:f<480) (c:ce.length=3) (d:∀v∈ce,v.oneCell'=wP):
 TS w (wr.setRow (w.heap.size+1) (Uw a.toList f ce).toArray) b (iV a (f/3) ce):=h.put f _ ce oO oO c d
theorem F4:∀v∈cW.toList,v.oneCell'=wP:=by
 intro v a;simp only[cW,List.mem_flatten]at a;obtain⟨b,hl,a⟩:=a;rw[List.eq_of_mem_replicate hl]at a;exact fV _ _ _ v a
def Ia:Nat->Nat
 |0=>0
 |1=>1
 |2=>2
 |_=>4
theorem KL (k:Nat):Ia k<5:=by unfold Ia;split<;>omega
def xZ:Nat->z8 xf
 |0=>s6 5
 |k+1=>iV (xZ k) (32* Ia k) (mc 3 3 x7)
def uR:Nat->z8 xf
 |0=>xZ 4
 |k+1=>iV (uR k) (32* k+31) (mc 4 0 x7)
def fk:z8 xf:=iV (iV (iV (iV (iV (iV (iV (iV (iV (iV (iV (iV (uR 3) (84/3) (mc 2 1 x7)) (87/3) (mc 2 2 x7)) (90/3) (mc 2 4 x7)) (180/3) (mc 3 0 x7)) (183/3) (mc 2 2 x7)) (186/3) (mc 2 4 x7)) (276/3) (mc 2 1 x7)) (279/3) (mc 2 0 x7)) (282/3) (mc 2 3 x7)) (381/3) (mc 2 0 x7)) (426/3) (mc 2 0 x7)) (429/3) (mc 3 0 x7)
theorem Pz:(prog.info? 3).map (·.size)=gk 1:=oK
theorem Dl:(prog.info? 170).map (·.size)=gk 480:=oK
theorem S5:(prog.info? 170).map (·.size)=gk fk.size:=oK
theorem TS.fin {w wr:wR} {b a:z8 xf} (h:TS w wr b a):0+a.toList.length<=cW.size:=by rw[qA,U2,h.Z];omega
theorem TS.Dl {w wr:wR} {b a:z8 xf} (h:TS w wr b a):(prog.info? 170).map (·.size)=gk a.toList.length:=by rw[U2,h.Z];exact _root_.Go.Proofs.YtmnlkganmgcpbaaGreatDoor.Dl
theorem TS.last {w wr:wR} {b a:z8 xf} (h:TS w wr b a):ag (wr.setRow w.heap.size (Uw cW.toList 0 a.toList).toArray) w.heap.size a 170/\af w (wr.setRow w.heap.size (Uw cW.toList 0 a.toList).toArray):=by
 have e:(Uw cW.toList 0 a.toList).toArray=a:=by
  unfold Uw;rw[List.take_zero,List.nil_append,UJ (by simp[h.Z,qA]),List.append_nil]
 rw[e];exact⟨h.R0.set _,Lq h.B (Nat.le_refl _) _⟩
theorem dW:(prog.info? 168).map (·.size)=gk 3:=oK
theorem Rc:(prog.info? 214).map (·.size)=gk 1:=oK
theorem J9 {k:z8 Oper} {l:List Oper} {b:Oper} {a:Act} {Q:Exit->Act->wR->Prop} {w wr:wR} {g e:z8 xf} (h:TS w wr g e) (s:b.guard=U) (c x:HK) (m:b.op= .store 168 c x)
 (f:Nat) (ce:List xf) (n:a.eval c= .pointer (gk ⟨w.heap.size+1,f,U⟩)) (o:a.eval x= .agg ce.toArray) (d:ce.length=3) (i:∀v∈ce,v.oneCell'=wP) (p:f%3=0) (q:f<480)
 (r:∀j,w2 (TS w j g (iV e (f/3) ce))->y7 w1 k Q l (a.put b.dst undef) j):y7 w1 k Q (b::l) a wr:=
 aZ s 168 c x m 170 (w.heap.size+1) f e ce n o h.R1 (by rw[d];exact dW) (h.fit d oO) i (r _ (h.TK f ce p q d i))
theorem Dw {f:z8 Oper} {g:List Oper} {b:Oper} {a:Act} {Q:Exit->Act->wR->Prop} {w wr:wR} {i d:z8 xf} (h:TS w wr i d) (m:b.guard=U) (c:HK) (j:b.op= .load 170 c)
 (k:a.eval c= .pointer (gk ⟨w.heap.size+1,0,U⟩))
 (l:∀e,w2 (e=d)->y7 w1 f Q g (a.put b.dst (.agg e)) wr):y7 w1 f Q (b::g) a wr:=
 wpList_load_row m 170 c j (w.heap.size+1) k 170 d (0,0) _ h.R1 underlying170 rfl (by rw[h.Z];exact Dl) (l _ rfl)
theorem CU {f:z8 Oper} {i:List Oper} {b:Oper} {a:Act} {Q:Exit->Act->wR->Prop} {w wr:wR} {j g c:z8 xf} (h:TS w wr j g) (hc:c=g) (o:b.guard=U) (d x:HK) (k:b.op= .store 170 d x)
 (l:a.eval d= .pointer (gk ⟨w.heap.size,0,U⟩)) (m:a.eval x= .agg c)
 (n:∀e,w2 (ag e w.heap.size c 170/\af w e)->y7 w1 f Q i (a.put b.dst undef) e):y7 w1 f Q (b::i) a wr:=by
 subst hc;exact aZ o 170 d x k 170 w.heap.size 0 cW c.toList l m h.R0 h.Dl h.fin h.O (n _ h.last)
theorem nj (w:wR):
 wS w1 129 #[] w (au (.agg fk) w):=by
 obtain⟨Q,S,V,W,X⟩:=info_parts Re;go_enter func129,ntmps129;go_wp2_with(refine bj rfl 170 rfl cW Dt ?_)
 have b1:w2 (ag ((w.alloc (.cells cW 170)).alloc (.cells cW 170)) w.heap.size cW 170):=ag.below (W:=w.alloc (.cells cW 170)) (HT _ _) (ax _ _);have b2:w2 (ag ((w.alloc (.cells cW 170)).alloc (.cells cW 170)) (w.heap.size+1) cW 170):=by
  have h:=HT (w.alloc (.cells cW 170)) (.cells cW 170);rw[show(w.alloc (.cells cW 170)).heap.size=w.heap.size+1 from by simp]at h;exact h
 have b3:w2 (af w ((w.alloc (.cells cW 170)).alloc (.cells cW 170))):=ah (ax _ _) _;have ap:((w.alloc (.cells cW 170)).alloc (.cells cW 170)).heap.size=w.heap.size+1+1:=by simp
 generalize(w.alloc (.cells cW 170)).alloc (.cells cW 170)=B at*;rw[<-ap];have b4:=aa ap;clear ap;refine(pq Hu _ oD oD).mono ?_;rintro e c8 ⟨c9,c0,rfl,hs,hb⟩;have a1:=aa hs;have a2:w2 (c8.ownsRow B.heap.size 9 1 (.slice (gk ⟨B.heap.size,0,U⟩) 1 1) 1 ([ph].map HN)):=aq (sP B [ph] 9 1 rfl oM) hb;have Z:=aa (ae (ax _ _) hb);clear hs hb;go_wp2_with(at_builtin;refine aY (f:=HN) (d:=x7) DZ rfl _ _ _ rfl B.heap.size 9 Q _ 16 UP S V W X rfl _ 1 [ph] rfl a2.out c9 _ c0 (UK Hu) rfl a1.out.hn a1.out.rd (by have:Hu.size=26:=rfl;unfold HG;omega) (by have:Hu.size=26:=rfl;omega) Z.out.size ?_;intro v0 t f hg;have b:w2 (af B t):=Z.out.grown hg Z.out.size (λq hq=>(a2.out.lt q hq).1);obtain⟨C,K,k0,rfl,p⟩:=(SG.bL (f:=HN) (d:=x7) f).parts;have b5:w2 (SR HN x7 t C K k0 (texts 0)):=p;have b6:w2 (∀a,C=gk a->B.heap.size<=a.block):=(λa e=>(f.lt a.block (by rw[e];rfl)).1);clear p;have a3:w2 (af B t):=b.out;clear b Z a2 a1;clear f hg)
 refine(pq IQ _ oD oD).mono ?_;rintro e da ⟨dd,c1,rfl,hs,hb⟩;have a4:=aa hs;have a5:w2 (da.ownsRow t.heap.size 9 1 (.slice (gk ⟨t.heap.size,0,U⟩) 1 1) 1 ([ph].map HN)):=aq (sP t [ph] 9 1 rfl oM) hb;have ab:=aa (ae (ax _ _) hb);clear hs hb;go_wp2_with(at_builtin;refine aY (f:=HN) (d:=x7) DZ rfl _ _ _ rfl t.heap.size 9 Q _ 16 UP S V W X rfl _ 1 [ph] rfl a5.out dd _ c1 (UK IQ) rfl a4.out.hn a4.out.rd (by have:IQ.size=26:=rfl;unfold HG;omega) (by have:IQ.size=26:=rfl;omega) ab.out.size ?_;intro v1 u f hg;have b:w2 (af t u):=ab.out.grown hg ab.out.size (λq hq=>(a5.out.lt q hq).1);obtain⟨D,n1,L,rfl,p⟩:=(SG.bL (f:=HN) (d:=x7) f).parts;have b7:w2 (SR HN x7 u D n1 L (texts 1)):=p;have b9:w2 (∀a,D=gk a->t.heap.size<=a.block):=(λa e=>(f.lt a.block (by rw[e];rfl)).1);clear p;have a6:=aa (ae a3.out b.out);have cs:=b;clear b ab a5 a4;clear f hg)
 refine(pq It _ oD oD).mono ?_;rintro e de ⟨di,dl,rfl,hs,hb⟩;have a7:=aa hs;have a8:w2 (de.ownsRow u.heap.size 9 1 (.slice (gk ⟨u.heap.size,0,U⟩) 1 1) 1 ([ph].map HN)):=aq (sP u [ph] 9 1 rfl oM) hb;have ac:=aa (ae (ax _ _) hb);clear hs hb;go_wp2_with(at_builtin;refine aY (f:=HN) (d:=x7) DZ rfl _ _ _ rfl u.heap.size 9 Q _ 16 UP S V W X rfl _ 1 [ph] rfl a8.out di _ dl (UK It) rfl a7.out.hn a7.out.rd (by have:It.size=26:=rfl;unfold HG;omega) (by have:It.size=26:=rfl;omega) ac.out.size ?_;intro ec x f hg;have b:w2 (af u x):=ac.out.grown hg ac.out.size (λq hq=>(a8.out.lt q hq).1);obtain⟨E,n2,M,rfl,p⟩:=(SG.bL (f:=HN) (d:=x7) f).parts;have ca:w2 (SR HN x7 x E n2 M (texts 2)):=p;have cb:w2 (∀a,E=gk a->u.heap.size<=a.block):=(λa e=>(f.lt a.block (by rw[e];rfl)).1);clear p;have a9:=aa (ae a6.out b.out);have cv:=aa (ae cs.out b.out);have cx:=b;clear cs;clear b ac a8 a7;clear f hg)
 refine(pq IM _ oD oD).mono ?_;rintro e dn ⟨ds,dv,rfl,hs,hb⟩;have bb:=aa hs;have bd:w2 (dn.ownsRow x.heap.size 9 1 (.slice (gk ⟨x.heap.size,0,U⟩) 5 5) 5 (PD.map HN)):=aq (sP x PD 9 5 rfl oM) hb;have ad:=aa (ae (ax _ _) hb);clear hs hb;go_wp2_with(at_builtin;refine aY (f:=HN) (d:=x7) DZ rfl _ _ _ rfl x.heap.size 9 Q _ 16 UP S V W X rfl _ 5 PD rfl bd.out ds _ dv (UK IM) rfl bb.out.hn bb.out.rd (by have:IM.size=25:=rfl;unfold HG;omega) (by have:IM.size=25:=rfl;omega) ad.out.size ?_;intro ed y f hg;have b:w2 (af x y):=ad.out.grown hg ad.out.size (λq hq=>(bd.out.lt q hq).1);obtain⟨F,n3,k3,rfl,p⟩:=(SG.bL (f:=HN) (d:=x7) f).parts;have ch:w2 (SR HN x7 y F n3 k3 (texts 3)):=p;have ci:w2 (∀a,F=gk a->x.heap.size<=a.block):=(λa e=>(f.lt a.block (by rw[e];rfl)).1);clear p;have be:=aa (ae a9.out b.out);have cy:=aa (ae cv.out b.out);have c2:=aa (ae cx.out b.out);have c3:=b;clear cv cx;clear b ad bd bb;clear f hg)
 refine(pq E5 _ oD oD).mono ?_;rintro e dx ⟨dy,dz,rfl,hs,hb⟩;have bf:=aa hs;have bi:w2 (dx.ownsRow y.heap.size 9 1 (.slice (gk ⟨y.heap.size,0,U⟩) 1 1) 1 ([ph].map HN)):=aq (sP y [ph] 9 1 rfl oM) hb;have al:=aa (ae (ax _ _) hb);clear hs hb;go_wp2_with(at_builtin;refine aY (f:=HN) (d:=x7) DZ rfl _ _ _ rfl y.heap.size 9 Q _ 16 UP S V W X rfl _ 1 [ph] rfl bi.out dy _ dz (UK E5) rfl bf.out.hn bf.out.rd (by have:E5.size=12:=rfl;unfold HG;omega) (by have:E5.size=12:=rfl;omega) al.out.size ?_;intro v4 G f hg;have b:w2 (af y G):=al.out.grown hg al.out.size (λq hq=>(bi.out.lt q hq).1);obtain⟨H,n4,k4,rfl,p⟩:=(SG.bL (f:=HN) (d:=x7) f).parts;have ck:w2 (SR HN x7 G H n4 k4 (texts 4)):=p;have co:w2 (∀a,H=gk a->y.heap.size<=a.block):=(λa e=>(f.lt a.block (by rw[e];rfl)).1);clear p;have bo:=aa (ae be.out b.out);have c4:=aa (ae cy.out b.out);have c5:=aa (ae c2.out b.out);have c6:=aa (ae c3.out b.out);have c7:=b;clear cy c2 c3;clear b al bi bf;clear f hg)
 have cp:w2 (TS w (G.alloc (.cells #[.slice C K k0,.slice D n1 L,.slice E n2 M,.slice F n3 k3,.slice H n4 k4] 216)) #[.slice C K k0,.slice D n1 L,.slice E n2 M,.slice F n3 k3,.slice H n4 k4] (s6 0)):=by
  have z:=b4.out;have ef:=a3.out.size;have eh:=a6.out.size;have ek:=a9.out.size;have el:=be.out.size;have em:=bo.out.size;have b0:af B (G.alloc (.cells #[.slice C K k0,.slice D n1 L,.slice E n2 M,.slice F n3 k3,.slice H n4 k4] 216)):=ah bo.out _;have dE:af t G:=c4.out;have d0:af u G:=c5.out;have d1:af x G:=c6.out;have d2:af y G:=c7.out;refine⟨ae b3.out b0,b1.out.below b0,b2.out.below b0,λk av=>?_,qA,F4⟩;have j:k=0\/k=1\/k=2\/k=3\/k=4:=oO;rcases j with rfl|rfl|rfl|rfl|rfl
  ·exact⟨C,K,k0,rfl,b5.out.below (ah dE _),λa e=>by have:=b6.out a e;omega⟩
  ·exact⟨D,n1,L,rfl,b7.out.below (ah d0 _),λa e=>by have:=b9.out a e;omega⟩
  ·exact⟨E,n2,M,rfl,ca.out.below (ah d1 _),λa e=>by have:=cb.out a e;omega⟩
  ·exact⟨F,n3,k3,rfl,ch.out.below (ah d2 _),λa e=>by have:=ci.out a e;omega⟩
  ·exact⟨H,n4,k4,rfl,ck.out.below (ax _ _),λa e=>by have:=co.out a e;omega⟩
 clear b4 b1 b2 b3 a3 a6 a9 be bo c4 c5 c6 c7 b5 b7 ca ch ck b6 b9 cb ci co;have eA:(#[Value.slice C K k0,.slice D n1 L,.slice E n2 M,.slice F n3 k3,.slice H n4 k4]:z8 xf).size=5:=rfl;generalize(#[Value.slice C K k0,.slice D n1 L,.slice E n2 M,.slice F n3 k3,.slice H n4 k4]:z8 xf)=r at*;go_loopw [28] (λi wr=>∃k:Nat,k<=5/\i=I J k/\w2 (TS w wr r (s6 k))) (λi _=>5-(intOf i).toNat)
 case atStart=>exact⟨0,by omega,rfl,cp.out⟩
 case round=>
  obtain⟨k,av,rfl,l⟩:=hrel;by_cases N:k<5
  ·obtain⟨A,n,c,bv,hs,_⟩:=l.out.X k N;have P:=aa bv;have en:=aa hs;clear bv hs;have ex:=Ln k;go_wp2_with(refine jH rfl 216 _ _ rfl 5 214 underlying216 _ UP rfl Rc r .i64 k k rfl rfl rfl N _ P.out ?_)
   obtain⟨bx,rfl⟩:∃bx:wR,bx=wr:=⟨_,rfl⟩;go_loopw [34] (λi wr=>∃d:Nat,d<=n/\i=I J d/\w2 (TS w wr r (yu (s6 k) (texts k) (32* k) d))) (λi _=>n-(intOf i).toNat)
   case atStart=>exact⟨0,by omega,rfl,l.out⟩
   case round=>
    obtain⟨d,eq,rfl,T⟩:=hrel;obtain⟨er,es,et,am,O,_⟩:=T.out.X k N;rw[P.out]at am;injection am with am;injection am with bq d6 d7;subst bq d6 d7;by_cases d9:d<n
    ·obtain⟨a,rfl,e0,cq⟩:=O.rd (by rw[<-O.hn];omega);have bq:=cq d (by rw[<-O.hn];exact d9);have ey:d<31:=by have:=O.hn;omega
     obtain⟨s,bs⟩:∃s,s=(texts k).getD d x7:=⟨_,rfl⟩;have d8:=aa bs;rw[<-bs]at bq;clear cq O bs;have d3:w2 (TS w (wr.setRow (w.heap.size+1) (Uw (yu (s6 k) (texts k) (32* k) d).toList (k* 96+(d+1)* 3) (mc 1 0 s)).toArray) r (iV (yu (s6 k) (texts k) (32* k) d) (32* k+d+1) (mc 1 0 s))):=T.out.put _ _ _ oO oO rfl (fV 1 0 s);have ea:w2 (k* 96+(d+1)* 3+(mc 1 0 s).length<=(yu (s6 k) (texts k) (32* k) d).size):=T.out.fit rfl oO;have d4:w2 (∀v∈mc 1 0 s,v.oneCell'=wP):=fV 1 0 s;have bt:w2 (mc 1 0 s=[I J 1,I J 0,.string s]):=rfl;generalize mc 1 0 s=ce at*;go_wp2_with(refine aZ rfl 168 _ _ rfl 170 (w.heap.size+1) (k* 96+(d+1)* 3) (yu (s6 k) (texts k) (32* k) d) ce rfl (by rw[bt.out];rfl) T.out.R1 (by rw[bt.out];exact dW) ea.out d4.out ?_;generalize World.setRow _ _ _=a0 at*)
     refine⟨⟨d+1,by omega,by go_num,?_⟩,by simp[intOf];omega⟩;have o:=d3.out;rw[bt.out,d8.out]at o;exact o
    ·obtain rfl:d=n:=oO;have hq:d=(texts k).length:=O.hn;clear O;have d5:=aa hq;clear hq;go_wp2;refine⟨⟨k+1,by omega,by go_num,?_⟩,by simp[intOf];omega⟩;have o:=T.out;rw[d5.out]at o;exact o
  ·have j:k=5:=oO;clear cp;have g:w2 (TS w wr r (xZ 0)):=by
    have o:=l.out;rw[j]at o;exact o
   clear j;clear l;go_wp2;go_loopw [49] (λi wr=>∃k:Nat,k<=4/\i=I J k/\w2 (TS w wr r (xZ k))) (λi _=>4-(intOf i).toNat)
   case atStart=>exact⟨0,by omega,rfl,g.out⟩
   case round=>
    clear g;obtain⟨k,av,rfl,l⟩:=hrel;by_cases N:k<4
    ·have Y:w2 (TS w wr r (xZ k)):=l;have g:w2 (TS w (wr.setRow (w.heap.size+1) (Uw (xZ k).toList (Ia k* 96) (mc 3 3 x7)).toArray) r (xZ (k+1))):=l.out.put _ _ _ oO (by have:=KL k;omega) rfl (fV _ _ _);have P:w2 (#[Value.int .i64 0,I J 1,I J 2,I J 4][k]?=gk (I J (Ia k))):=by
      have j:k=0\/k=1\/k=2\/k=3:=oO;rcases j with rfl|rfl|rfl|rfl<;>rfl
     have ez:=KL k;generalize Ia k=m at*;go_wp2_with(first|(refine jH rfl 128 _ _ rfl 4 3 underlying128 _ Uu rfl Pz _ .i64 k k rfl rfl rfl N _ P.out ?_)|(refine aZ rfl 168 _ _ rfl 170 (w.heap.size+1) (m* 96) _ (mc 3 3 x7) rfl rfl Y.out.R1 dW (Y.out.fit rfl oO) (fV 3 3 x7) ?_;generalize World.setRow _ _ _=a0 at*))
     exact⟨⟨k+1,by omega,by go_num,g.out⟩,by simp[intOf];omega⟩
    ·have j:k=4:=oO;have g:w2 (TS w wr r (uR 0)):=by
      have o:=l.out;rw[j]at o;exact o
     clear j;clear l;go_wp2;go_loopw [58] (λi wr=>∃k:Nat,k<=3/\i=I J k/\w2 (TS w wr r (uR k))) (λi _=>3-(intOf i).toNat)
     case atStart=>exact⟨0,by omega,rfl,g.out⟩
     case round=>
      clear g;obtain⟨k,av,rfl,l⟩:=hrel;by_cases N:k<3
      ·have Y:w2 (TS w wr r (uR k)):=l;have g:w2 (TS w (wr.setRow (w.heap.size+1) (Uw (uR k).toList (k* 96+93) (mc 4 0 x7)).toArray) r (uR (k+1))):=l.out.put _ _ _ oO oO rfl (fV _ _ _);have P:w2 (#[Value.int .i64 0,I J 1,I J 2][k]?=gk (I J k)):=by
        have j:k=0\/k=1\/k=2:=oO;rcases j with rfl|rfl|rfl<;>rfl
       go_wp2_with(first|(refine jH rfl 217 _ _ rfl 3 3 underlying217 _ Uu rfl Pz _ .i64 k k rfl rfl rfl N _ P.out ?_)|(refine aZ rfl 168 _ _ rfl 170 (w.heap.size+1) (k* 96+93) _ (mc 4 0 x7) rfl rfl Y.out.R1 dW (Y.out.fit rfl oO) (fV 4 0 x7) ?_;generalize World.setRow _ _ _=a0 at*))
       exact⟨⟨k+1,by omega,by go_num,g.out⟩,by simp[intOf];omega⟩
      ·have j:k=3:=oO;have g:w2 (TS w wr r (uR 3)):=by
        have o:=l.out;rw[j]at o;exact o
       clear j;clear l;go_wp2_with(first|(refine J9 g.out rfl _ _ rfl _ [_,_,_] rfl rfl rfl (fV _ _ _) oD oD ?_;clear g;intro a0 g)|(refine Dw g.out rfl _ rfl rfl ?_;intro cr HC)|(refine CU g.out HC.out rfl _ _ rfl rfl rfl ?_;intro ew bz;have hc:w2 (cr=fk):=HC.out;clear g HC;have HC:=hc;clear hc))
       (try simp only[Exit.inBlock,Exit.then])
       refine bodyPost_ret (results_cell_row rfl _ _ w.heap.size 170 cr (0,0) _ rfl bz.out.1 underlying170 rfl (by rw[HC.out];exact S5)) rfl ?_;exact⟨by rw[HC.out],bz.out.2⟩
def cF (m n:Nat):Nat:=
 if 1<=n/\n<=(texts m).length then 1 else
 match m,n with
 |0,0=>3|1,0=>3|2,0=>3|4,0=>3|1,28=>3|4,15=>3
 |0,31=>4|1,31=>4|2,31=>4
 |0,28=>2|0,29=>2|0,30=>2|1,29=>2|1,30=>2|2,28=>2|2,29=>2|2,30=>2|3,31=>2|4,14=>2
 |_,_=>0
def cD (m n:Nat):Nat:=
 match m,n with
 |0,0=>3|1,0=>3|2,0=>3|4,0=>3
 |0,28=>1|0,29=>2|0,30=>4|1,29=>2|1,30=>4|2,28=>1|2,30=>3
 |_,_=>0
def dj (m n:Nat):x2:=if n=0 then x7 else(texts m).getD (n-1) x7
abbrev qm (m n:Nat):List xf:=[I J ((cF m n:Nat):Int),I J ((cD m n:Nat):Int),.string (dj m n)]
def qD (m:Nat):List xf:=(List.range 32).flatMap (qm m)
def TX:List xf:=(List.range 5).flatMap qD
theorem K7:fk.toList=TX:=oK
theorem Fx {d:Type} (L:Nat) (f:Nat->List d) (e:∀a,(f a).length=L):∀(k a b:Nat),a<k->b<L->((List.range k).flatMap f)[a* L+b]?=(f a)[b]?:=by
 intro k
 induction k with
 |zero=>intro a b h;omega
 |succ k c=>
  intro a b g i;have hl:((List.range k).flatMap f).length=k* L:=by
   clear c g
   induction k with
   |zero=>simp
   |succ k c=>rw[List.range_succ,Un,List.length_append,c];simp[e,WA]
  rw[List.range_succ,Un];by_cases h:a<k
  ·rw[List.getElem?_append_left (by rw[hl];calc a* L+b<a* L+L:=oO
    _=(a+1)* L:=by rw[WA]
    _<=k* L:=Nat.mul_le_mul_right _ oO)]
   exact c a b h i
  ·obtain rfl:a=k:=oO;rw[List.getElem?_append_right (by rw[hl];omega),hl];simp
theorem FH {a:Type} (L:Nat) (f:Nat->List a) (c:∀b,(f b).length=L) (k:Nat):((List.range k).flatMap f).length=k* L:=by
 induction k with
 |zero=>simp
 |succ k d=>rw[List.range_succ,Un,List.length_append,d];simp[c,WA]
theorem tv (m:Nat):(qD m).length=96:=FH 3 (qm m) (λ_=>rfl) 32
theorem ET (m n a:Nat) (hn:n<32) (b:a<3):(qD m)[n* 3+a]?=(qm m n)[a]?:=Fx 3 (qm m) (λ_=>rfl) 32 n a hn b
theorem zA (m k:Nat) (a:m<5) (b:k<96):fk[m* 96+k]?=(qD m)[k]?:=by
 have h:=Fx 96 qD tv 5 m k a b;rw[<-h,<-Array.getElem?_toList,K7];rfl
theorem oY:fk.size=480:=by
 rw[<-U2,K7];exact FH 96 qD tv 5
theorem H4 (m n:Nat) (hn:n<32):(qD m).toArray.extract (n* 3) (n* 3+3)=(qm m n).toArray:=by
 apply Array.ext';rw[Array.toList_extract,List.extract_eq_take_drop];apply List.ext_getElem?;intro a;rw[List.getElem?_take];by_cases b:a<3
 ·rw[if_pos oO,List.getElem?_drop];exact ET m n a hn b
 ·rw[if_neg oO,List.getElem?_eq_none (by show 3<=a;omega)]
structure aF where
 num:Nat
 sec:Int
 run:Nat
 long:Bool
 size:Nat
 at_:Nat
 mode:Nat
deriving DecidableEq
def aF.aN (a:aF):List xf:=[I J (a.num:Int),I J a.sec,I J (a.run:Int),.bool a.long,I J (a.size:Int),I J (a.at_:Int),I J (a.mode:Int)]
def aF.val (a:aF):xf:= .agg a.aN.toArray
def aF.cu (b:Nat->Nat->Nat) (a:aF):Nat:=a.size+b a.at_ a.mode
structure SW (w:wR) (d e cap hb:Nat) (c:x2) (C:Nat->Nat->Nat):Prop where
 lt:d<w.heap.size
 c0:w.cell? ⟨d,0,U⟩=gk (.string c)
 ct:∀f v,fk[f]?=gk v->w.cell? ⟨d,1+f,U⟩=gk v
 cc:w.cell? ⟨d,481,U⟩=gk (.slice (gk ⟨e,0,U⟩) (c.size+1) cap)
 cm:w.cell? ⟨d,482,U⟩=gk (.map (gk hb))
 cl:e<w.heap.size
 cz:∀a m,a<=c.size->m<5->w.cell? ⟨e,a* 5+m,U⟩=gk (I J ((C a m:Nat):Int))
 hc:c.size+1<=cap
 hp:c.size<=4096
 b:∀a m,C a m<=1073741824
theorem SW.below {w W:wR} {e f cap hb:Nat} {c:x2} {d:Nat->Nat->Nat} (h:SW w e f cap hb c d) (b:af w W):SW W e f cap hb c d:=
 ⟨x6 h.lt b.size,(b.cell h.lt).trans h.c0,λg v i=>(b.cell h.lt).trans (h.ct g v i),(b.cell h.lt).trans h.cc,(b.cell h.lt).trans h.cm,x6 h.cl b.size,
  λa m j k=>(b.cell h.cl).trans (h.cz a m j k),h.hc,h.hp,h.b⟩
theorem aF.cells (W:wR) (a:aF) (c:Ar) (b:Nat) (hb:b=W.heap.size):an (W.alloc (.cells a.aN.toArray c)) b a.aN:=an.new W a.aN.toArray c b hb
theorem uM {W:wR} {b:Nat} {a:aF} (h:an W b a.aN):
 W.cell? ⟨b,0,U⟩=gk (I J (a.num:Int))/\W.cell? ⟨b,1,U⟩=gk (I J a.sec)/\W.cell? ⟨b,2,U⟩=gk (I J (a.run:Int))/\W.cell? ⟨b,3,U⟩=gk (.bool a.long)/\
 W.cell? ⟨b,4,U⟩=gk (I J (a.size:Int))/\W.cell? ⟨b,5,U⟩=gk (I J (a.at_:Int))/\W.cell? ⟨b,6,U⟩=gk (I J (a.mode:Int)):=
 ⟨h.2 0 (by simp[aF.aN]),h.2 1 (by simp[aF.aN]),h.2 2 (by simp[aF.aN]),h.2 3 (by simp[aF.aN]),h.2 4 (by simp[aF.aN]),h.2 5 (by simp[aF.aN]),h.2 6 (by simp[aF.aN])⟩
theorem nk (b:aF) (w:wR) (g i cap hb:Nat) (f:x2) (d:Nat->Nat->Nat) (h:SW w g i cap hb f d) (j:b.at_<=f.size) (l:b.mode<5) (hs:b.size<=1073741824):
 wS w1 180 #[.pointer (gk ⟨g,0,U⟩),b.val] w (au (I J ((b.cu d:Nat):Int)) w):=by
 have r:=h.b b.at_ b.mode;have t:=h.hp;have y:=h.hc;obtain⟨num,e,run,long,size,at_,a⟩:=b;have m:w2 (aF.cu d ⟨num,e,run,long,size,at_,a⟩=size+d at_ a):=rfl
 have q:w2 (∀W,af (w.alloc (.cells (aF.aN ⟨num,e,run,long,size,at_,a⟩).toArray 181)) W->
  W.cell? ⟨w.heap.size,4,U⟩=gk (I J (size:Int))/\W.cell? ⟨w.heap.size,5,U⟩=gk (I J (at_:Int))/\W.cell? ⟨w.heap.size,6,U⟩=gk (I J (a:Int))/\
  W.cell? ⟨g,481,U⟩=gk (.slice (gk ⟨i,0,U⟩) (f.size+1) cap)/\W.cell? ⟨i,at_* 5+a,U⟩=gk (I J ((d at_ a:Nat):Int))):=by
  show∀W,_;intro W p;have k:=uM ((an.new w (aF.aN ⟨num,e,run,long,size,at_,a⟩).toArray 181 w.heap.size rfl).below p);have n:=(h.below (ax _ _)).below p;exact⟨k.2.2.2.2.1,k.2.2.2.2.2.1,k.2.2.2.2.2.2,n.cc,n.cz at_ a j l⟩
 have o:w2 (aF.val ⟨num,e,run,long,size,at_,a⟩= .agg #[I J (num:Int),I J e,I J (run:Int),.bool long,I J (size:Int),I J (at_:Int),I J (a:Int)]):=rfl;rw[o.out,m.out];clear h m o;generalize d at_ a=c at*;have u:at_<=4096:=by simp only at j;omega
 simp only at l hs j;have v:(at_:Int)<(f.size:Int)+1:=oO;have x:(a:Int)<5:=oO;have s:J.wrap ((size:Int)+(c:Int))=((size+c:Nat):Int):=by rw[aG _ oO oO];omega
 go_enter func180,ntmps180;go_wp2;refine yO (af (w.alloc (.cells (aF.aN ⟨num,e,run,long,size,at_,a⟩).toArray 181))) [1,2,3,4,5,6,7,8,9,10,11,12,13,14,15,16,17] (ai (w3 _ _)) ?_
 repeat refine zO q.out ?_
 refine aj ?_;go_wp2;go_ret;exact⟨rfl,(ax w _).trans ((ai (w3 _ _)).mono oS)⟩
def dO (b:Nat->Nat->Nat) (num at_ m:Nat) (a:aF) (n sz:Nat) (lg:Bool):aF:=
 if a.run=0\/aF.cu b ⟨num,-1,n,lg,sz+8* n,at_+n,m⟩<a.cu b then⟨num,-1,n,lg,sz+8* n,at_+n,m⟩else a
theorem oJ:(prog.info? 181).map (·.zero)=gk (gk (.agg #[I J 0,I J 0,I J 0,.bool R,I J 0,I J 0,I J 0])):=oK
theorem iE:(prog.info? 181).map (·.size)=gk 7:=oK
theorem aF.one (b:aF):∀v∈b.aN,v.oneCell'=wP:=by
 intro v a;simp only[aF.aN,List.mem_cons,List.not_mem_nil,or_false]at a;rcases a with rfl|rfl|rfl|rfl|rfl|rfl|rfl<;>rfl
theorem bG {f:Program} {w:wR} {k:z8 Oper} {l:List Oper} {c:Oper} {a:Act} {Q:Exit->Act->wR->Prop} (s:c.guard=U) (j:Ar) (g x:HK) (m:c.op= .store j g x)
 (i:Ar) (d:z8 xf) (b:List xf) (n:a.eval g= .pointer (gk ⟨w.heap.size,0,U⟩)) (o:a.eval x= .agg b.toArray) (p:(f.info? j).map (·.size)=gk b.length)
 (t:b.length=d.size) (q:∀v∈b,v.oneCell'=wP)
 (r:y7 f k Q l (a.put c.dst undef) (w.alloc (.cells b.toArray i))):y7 f k Q (c::l) a (w.alloc (.cells d i)):=by
 refine aZ s j g x m i w.heap.size 0 d b n o (HT _ _) p oO q ?_;have e:(Uw d.toList 0 b).toArray=b.toArray:=by
  unfold Uw;rw[List.take_zero,List.nil_append,UJ (by simp[t]),List.append_nil]
 rw[e,World.setRow_alloc_new];exact r
theorem ag.cells {w:wR} {g:Nat} {a:List xf} {c:Ar} (h:ag w g a.toArray c):an w g a:=by
 refine⟨ay h,λb d=>?_⟩;rw[h.cell b (a.getD b undef) (by simp[List.getD,d])]
theorem ag.new (w:wR) (c:z8 xf) (a:Ar) (b:Nat) (hb:b=w.heap.size):ag (w.alloc (.cells c a)) b c a:=by subst hb;exact HT _ _
theorem sX {W:wR} {b:Nat} {c:aF} (h:an W b c.aN):∀a v,c.aN[a]?=gk v->W.cell? ((⟨b,0,U⟩:Addr).add a)=gk v:=by
 intro a v d;have hl:a<c.aN.length:=by
  rcases Nat.lt_or_ge a c.aN.length with e|e
  ·exact e
  ·rw[List.getElem?_eq_none e]at d;cases d
 rw[add_plain,Nat.zero_add,h.2 a hl];simp[List.getD,d]
theorem jR (a b:List xf) (h:b.length=a.length):(Uw a.toArray.toList 0 b).toArray=b.toArray:=by
 unfold Uw;rw[List.take_zero,List.nil_append,UJ (by simp[h]),List.append_nil]
theorem uD {a:Act} {c:Oper} {W:wR} {b:Nat} {q:HK} (d:c.op= .load 181 q) (e:a.eval q= .pointer (gk ⟨b,0,U⟩)) (x:aF) (h:an W b x.aN):
 (execOp a.eval c).run w1 W= .ok (.value x.val) W:=by
 have f:=gQ (P:=w1) W 181 _ ⟨b,0,U⟩ x.aN N1 rfl iE (sX h);unfold execOp;simp only[d,e,Instr.loadAt,Instr.sureAddr,Sem.run_bind,Sem.run_pure,Result.andThen_ok,f];rfl
theorem Hq (n sz num at_ m:Nat) (lg:Bool) (a:aF) (w:wR) (i q cap hb C D f xb:Nat) (g:x2) (b:Nat->Nat->Nat) (h:SW w i q cap hb g b)
 (E:an w C [I J (num:Int)]) (hF:an w D [I J (at_:Int),I J (m:Int)]) (j:an w xb [.pointer (gk ⟨i,0,U⟩)]) (hB:ag w f a.aN.toArray 181)
 (N:at_+n<=g.size) (O:m<5) (av:sz<=100) (P:a.at_<=g.size) (Q:a.mode<5) (S:a.size<=1073741824) (a0:num<32) (a1:a.run<=4096):
 wS w1 228 #[I J (n:Int),I J (sz:Int),.bool lg,.pointer (gk ⟨C,0,U⟩),.pointer (gk ⟨D,0,U⟩),.pointer (gk ⟨f,0,U⟩),.pointer (gk ⟨xb,0,U⟩)] w
  λe F=>e= .returned (.tuple #[])/\ag F f (dO b num at_ m a n sz lg).aN.toArray 181/\Below f w F:=by
 have a2:=h.hp;have c1:=E.2 0 oS;have T:=hF.2 0 oS;have V:=hF.2 1 oS;have X:=j.2 0 oS;simp only[List.getD,List.getElem?_cons_zero,List.getElem?_cons_succ,HL]at c1 T V X;have Y:=aa h;have k:=aa hB;have a3:=aa j.1;have Z:=aa j;have a5:J.wrap (8* (n:Int))=((8* n:Nat):Int):=by rw[aG _ oO oO];omega
 have a6:J.wrap ((sz:Int)+((8* n:Nat):Int))=((sz+8* n:Nat):Int):=by rw[aG _ oO oO];omega
 have a7:J.wrap ((at_:Int)+(n:Int))=((at_+n:Nat):Int):=by rw[aG _ oO oO];omega
 obtain⟨no,s⟩:∃no:aF,no=⟨num,-1,n,lg,sz+8* n,at_+n,m⟩:=⟨_,rfl⟩;have am:=aa s;have o:w2 (dO b num at_ m a n sz lg=if a.run=0\/no.cu b<a.cu b then no else a):=by rw[s];rfl
 have y:w2 (no.at_<=g.size/\no.mode<5/\no.size<=1073741824):=by rw[s];exact⟨N,O,by show sz+8* n<=_;omega⟩
 clear h hB E hF j s;go_enter func228,ntmps228;go_wp2_with(first|(refine bj rfl 181 rfl _ oJ ?_)|(refine bG rfl 181 _ _ rfl 181 _ no.aN rfl (by rw[am.out];rfl) iE rfl no.one ?_))
 have c:w2 (∀W,af (w.alloc (.cells no.aN.toArray 181)) W->W.cell? ⟨f,2,U⟩=gk (I J (a.run:Int))/\W.cell? ⟨xb,0,U⟩=gk (.pointer (gk ⟨i,0,U⟩))):=by
  show∀W,_;intro W d;have hB:=(k.out.below (ax w (.cells no.aN.toArray 181))).below d;have j:=((Z.out.alloc (.cells no.aN.toArray 181)).below d).2 0 oS;exact⟨(uM hB.cells).2.2.1,j⟩
 have t:w2 (∀W,af (w.alloc (.cells no.aN.toArray 181)) W->an W w.heap.size no.aN):=λW d=>((ag.new w no.aN.toArray 181 _ rfl).cells).below d;have z:w2 (∀W,af (w.alloc (.cells no.aN.toArray 181)) W->an W f a.aN):=λW d=>((k.out.below (ax w _)).below d).cells;have u:w2 (∀W,af (w.alloc (.cells no.aN.toArray 181)) W->SW W i q cap hb g b):=λW d=>(Y.out.below (ax w _)).below d
 (try simp only[yQ,yU,yX,yY])
 by_cases G:a.run=0
 ·have ab:((a.run:Int)==0)=wP:=by rw[beq_iff_eq];omega
  have p:w2 (dO b num at_ m a n sz lg=no):=by show _=_;rw[o.out,if_pos (.inl G)]
  refine yO (af (w.alloc (.cells no.aN.toArray 181))) [1,2,3,4,5,6,8,9,0,7,10,0,11,12] (ai (w3 _ _)) ?_
  repeat refine zO c.out ?_
  repeat(first|refine' jn rfl ?_|refine' iz rfl (ai (w3 _ _)) ?_)
  repeat refine zO c.out ?_
  refine aj ?_;have r:w2 (ag (w.alloc (.cells no.aN.toArray 181)).drew f a.aN.toArray 181):=(k.out.below (ax w _)).below (ai (w3 _ _));have K:w2 (an (w.alloc (.cells no.aN.toArray 181)).drew w.heap.size no.aN):=(ag.new w no.aN.toArray 181 _ rfl).cells.below (ai (w3 _ _));have x:w2 (af w (w.alloc (.cells no.aN.toArray 181)).drew):=ai (ax w _);generalize(w.alloc (.cells no.aN.toArray 181)).drew=a4 at*;have ap:f<w.heap.size:=ay k.out;exact RC
 ·have ab:((a.run:Int)==0)=R:=by rw[beq_eq_false_iff_ne];omega
  refine yO (af (w.alloc (.cells no.aN.toArray 181))) [1,2,3,4,5,6,8,9,0,7,10,0,11,12] (ai (w3 _ _)) ?_
  repeat first|refine zO c.out ?_|refine zX c.out ?_
  refine' zW rfl (λW d=>uD rfl rfl no (t.out W d)) ?_
  repeat first|refine zO c.out ?_|refine zX c.out ?_
  refine' zW rfl (λW d=>uD rfl rfl a (z.out W d)) ?_;refine zZ ?_;refine(nk no _ i q cap hb g b (u.out _ (ai (w3 _ _))) y.out.1 y.out.2.1 y.out.2.2).mono ?_;rintro e ac ⟨rfl,L⟩;have A:w2 (af (w.alloc (.cells no.aN.toArray 181)) ac):=(ai (w3 _ _)).trans L;clear L;refine⟨_,rfl,A.out,jO ?_⟩;refine zZ ?_;refine(nk a _ i q cap hb g b (u.out _ A.out) P Q S).mono ?_;rintro e l ⟨rfl,M⟩;have v:w2 (af (w.alloc (.cells no.aN.toArray 181)) l):=ae A.out M;clear M;refine⟨_,rfl,v.out,jO ?_⟩;have r:w2 (ag l f a.aN.toArray 181):=(k.out.below (ax w (.cells no.aN.toArray 181))).below v.out;have K:w2 (an l w.heap.size no.aN):=t.out l v.out;have x:w2 (af w l):=(ax w _).trans (v.out.mono oS);have ap:f<w.heap.size:=ay k.out;by_cases H:no.cu b<a.cu b
  ·have p:w2 (dO b num at_ m a n sz lg=no):=by show _=_;rw[o.out,if_pos (.inr H)]
   repeat first|refine zO c.out ?_|refine zX c.out ?_
   refine aj ?_;clear c t z u o;generalize no.cu b=ad at*;generalize a.cu b=al at*;exact RC
  ·have p:w2 (dO b num at_ m a n sz lg=a):=by show _=_;rw[o.out,if_neg (λh=>h.elim G H)]
   repeat first|refine zO c.out ?_|refine zX c.out ?_
   refine aj ?_;clear c t z u o;generalize no.cu b=ad at*;generalize a.cu b=al at*;go_wp2;refine bodyPost_end (results_none rfl _ _ _) rfl ?_;rw[p.out];exact⟨rfl,r.out,x.out.mono oO⟩
def gj (a:Nat->Nat->Nat) (num at_ m:Nat):Nat->aF
 |0=>⟨0,0,0,R,1073741824,at_,m⟩
 |k+1=>dO a num at_ m (gj a num at_ m k) (31+k) (ar m+16) wP
def eF (a:Nat->Nat->Nat) (num at_ m K:Nat):Nat->aF
 |0=>gj a num at_ m K
 |k+1=>dO a num at_ m (eF a num at_ m K k) (1+k) (ar m+5) R
def ga (a:Nat->Nat->Nat) (num at_ m left:Nat):aF:=eF a num at_ m (min left 2078-30) (min left 31)
def okO (b:x2) (a:aF):Prop:=a.at_<=b.size/\a.mode<5/\a.size<=1073741824/\a.run<=4096
theorem gU (m:Nat):ar m<=5:=by unfold ar;split<;>omega
theorem IW {c:Nat->Nat->Nat} {num at_ m:Nat} {b:aF} {n sz:Nat} {lg:Bool} {a:x2} (h:okO a b) (d:at_+n<=a.size) (e:m<5) (f:sz<=100) (g:a.size<=4096):okO a (dO c num at_ m b n sz lg):=by
 unfold dO;split
 ·exact⟨d,e,by show sz+8* n<=_;omega,by show n<=_;omega⟩
 ·exact h
theorem yj {e:Nat->Nat->Nat} {num at_ m:Nat} {a:x2} (c:at_<=a.size) (b:m<5) (d:a.size<=4096):∀k,at_+30+k<=a.size\/k=0->okO a (gj e num at_ m k)
 |0,_=>⟨c,b,Nat.le_refl _,by show 0<=_;omega⟩
 |k+1,h=>IW (yj c b d k oO) oO b (by have:=gU m;omega) d
theorem vQ {f:Nat->Nat->Nat} {num at_ m:Nat} {a:x2} (K:Nat) (d:at_<=a.size) (b:m<5) (c:a.size<=4096) (e:at_+30+K<=a.size\/K=0):∀k,at_+k<=a.size->okO a (eF f num at_ m K k)
 |0,_=>yj d b c K e
 |k+1,h=>IW (vQ K d b c e k oO) oO b (by have:=gU m;omega) c
structure FS (w wr:wR) (a c cap hb:Nat) (b:x2) (C:Nat->Nat->Nat) (num at_ m:Nat):Prop where
 B:af w wr
 S:SW wr a c cap hb b C
 X:an wr w.heap.size [.pointer (gk ⟨a,0,U⟩)]
 F:an wr (w.heap.size+1) [I J (at_:Int),I J (m:Int)]
 N:an wr (w.heap.size+2) [I J (num:Int)]
 Z:ag wr (w.heap.size+3) (aF.aN ⟨0,0,0,R,0,0,0⟩).toArray 181
structure BS (w wr:wR) (b c cap hb:Nat) (a:x2) (C:Nat->Nat->Nat) (num at_ m:Nat) (d:aF):Prop extends FS w wr b c cap hb a C num at_ m where
 O:ag wr (w.heap.size+4) d.aN.toArray 181
theorem FS.below {w wr c:wR} {d e cap hb:Nat} {a:x2} {b:Nat->Nat->Nat} {num at_ m:Nat} (h:FS w wr d e cap hb a b num at_ m) (hB:af wr c):FS w c d e cap hb a b num at_ m:=
 ⟨ae h.B hB,h.S.below hB,h.X.below hB,h.F.below hB,h.N.below hB,h.Z.below hB⟩
theorem qE {d:Program} {w:wR} {g:z8 Oper} {i:List Oper} {b:Oper} {a:Act} {Q:Exit->Act->wR->Prop} (m:b.guard=U) (c:Ar) (j:b.op= .alloc c)
 (e:z8 xf) (k:(d.info? c).map (·.zero)=gk (gk (.agg e))) (f:Nat) (hg:f=w.heap.size)
 (l:y7 d g Q i (a.put b.dst (.pointer (gk ⟨f,0,U⟩))) (w.alloc (.cells e c))):y7 d g Q (b::i) a w:=by
 subst hg;exact bj m c j e k l
theorem FS.start (w:wR) (a d cap hb:Nat) (b:x2) (c:Nat->Nat->Nat) (num at_ m:Nat) (e f g:Ar) (h:SW w a d cap hb b c):
 FS w ((((w.alloc (.cells #[.pointer (gk ⟨a,0,U⟩)] e)).alloc (.cells #[I J (at_:Int),I J (m:Int)] f)).alloc (.cells #[I J (num:Int)] g)).alloc (.cells (aF.aN ⟨0,0,0,R,0,0,0⟩).toArray 181)) a d cap hb b c num at_ m:=by
 refine⟨ah (ah (ah (ax _ _) _) _) _,(((h.below (ax _ _)).below (ax _ _)).below (ax _ _)).below (ax _ _),?_,?_,?_,ag.new _ _ _ _ oS⟩
 ·exact((an.new w #[.pointer (gk ⟨a,0,U⟩)] e _ rfl).alloc _).alloc _|>.alloc _
 ·exact((an.new (w.alloc _) #[I J (at_:Int),I J (m:Int)] f (w.heap.size+1) oS).alloc _).alloc _
 ·exact(an.new ((w.alloc _).alloc _) #[I J (num:Int)] g (w.heap.size+2) oS).alloc _
theorem an.lower {W a:wR} {b B:Nat} {c:List xf} (h:an W b c) (hb:Below B W a) (hl:b<B):an a b c:=
 ⟨x6 h.1 hb.size,λd e=>(hb.cell hl).trans (h.2 d e)⟩
theorem ag.lower {W c:wR} {a B:Nat} {d:z8 xf} {b:Ar} (h:ag W a d b) (hb:Below B W c) (hl:a<B):ag c a d b:=(hb.block _ hl).trans h
theorem SW.lower {w W:wR} {c e cap hb B:Nat} {f:x2} {g:Nat->Nat->Nat} (h:SW w c e cap hb f g) (b:Below B w W) (d:c<B) (j:e<B):SW W c e cap hb f g:=
 ⟨x6 h.lt b.size,(b.cell d).trans h.c0,λi v k=>(b.cell (p:=⟨c,1+i,U⟩) d).trans (h.ct i v k),(b.cell d).trans h.cc,(b.cell d).trans h.cm,x6 h.cl b.size,
  λa m l n=>(b.cell j).trans (h.cz a m l n),h.hc,h.hp,h.b⟩
theorem BS.step {w wr a:wR} {b c cap hb:Nat} {d:x2} {e:Nat->Nat->Nat} {num at_ m:Nat} {i f:aF} (h:BS w wr b c cap hb d e num at_ m i) (j:b<w.heap.size) (k:c<w.heap.size)
 (g:ag a (w.heap.size+4) f.aN.toArray 181) (hB:Below (w.heap.size+4) wr a):BS w a b c cap hb d e num at_ m f:=
 ⟨⟨h.B.trans (hB.mono oO),h.S.lower hB oO oO,h.X.lower hB oO,h.F.lower hB oO,h.N.lower hB oO,h.Z.lower hB oO⟩,g⟩
theorem ye (num at_ m:Nat) (w:wR) (c f cap hb:Nat) (b:x2) (a:Nat->Nat->Nat) (h:SW w c f cap hb b a) (a7:at_<b.size) (s:m<5) (hn:num<32):
 wS w1 216 #[.pointer (gk ⟨c,0,U⟩),.agg #[I J (at_:Int),I J (m:Int)],I J (num:Int)] w
  λe A=>e= .returned (ga a num at_ m (b.size-at_)).val/\af w A:=by
 have B:=h.hp;have C:=aa h;obtain⟨ac,D⟩:w.cell? ⟨c,0,U⟩=gk (.string b)/\c<w.heap.size:=⟨h.c0,h.lt⟩;have P:f<w.heap.size:=h.cl;obtain⟨left,hl⟩:∃left,left=b.size-at_:=⟨_,rfl⟩;have bd:J.wrap ((b.size:Int)-(at_:Int))=(left:Int):=by rw[aG _ oO oO];omega
 have be:at_+left<=b.size:=oO;have bf:1<=left:=oO;have bi:left<=4096:=oO;rw[<-hl];clear hl h;go_enter func216,ntmps216;go_wp2_with(refine qE rfl 181 rfl _ oJ (w.heap.size+3) oS ?_)
 have v:w2 (FS w _ c f cap hb b a num at_ m):=FS.start w c f cap hb b a num at_ m 110 179 3 C.out;have E:((((w.alloc (.cells #[.pointer (gk ⟨c,0,U⟩)] 110)).alloc (.cells #[I J (at_:Int),I J (m:Int)] 179)).alloc (.cells #[I J (num:Int)] 3)).alloc (.cells (aF.aN ⟨0,0,0,R,0,0,0⟩).toArray 181)).heap.size=w.heap.size+4:=by simp
 have Q:=aa E;clear E;show Code.wp _ _ _ _ ((((w.alloc (.cells #[.pointer (gk ⟨c,0,U⟩)] 110)).alloc (.cells #[I J (at_:Int),I J (m:Int)] 179)).alloc (.cells #[I J (num:Int)] 3)).alloc (.cells (aF.aN ⟨0,0,0,R,0,0,0⟩).toArray 181));generalize(((w.alloc (.cells #[.pointer (gk ⟨c,0,U⟩)] 110)).alloc (.cells #[I J (at_:Int),I J (m:Int)] 179)).alloc (.cells #[I J (num:Int)] 3)).alloc (.cells (aF.aN ⟨0,0,0,R,0,0,0⟩).toArray 181)=n at*;have F:w2 (∀W,af n W->W.cell? ⟨w.heap.size,0,U⟩=gk (.pointer (gk ⟨c,0,U⟩))/\W.cell? ⟨c,0,U⟩=gk (.string b)/\W.cell? ⟨w.heap.size+1,0,U⟩=gk (I J (at_:Int))):=by
  show∀W,_;intro W ad;have l:=v.out.below ad;exact⟨l.X.2 0 oS,l.S.c0,l.F.2 0 oS⟩
 (try simp only[yQ,yU,yX,yY])
 clear ac C;refine yO (af n) [1,2,3,4,5,6,7,8,9] (ai (w3 _ _)) ?_
 repeat refine zO F.out ?_
 refine aj ?_;clear F;have u:w2 (FS w n.drew c f cap hb b a num at_ m):=v.out.below (ai (w3 _ _));have r:w2 (n.drew.heap.size=w.heap.size+4):=Q.out;clear v Q;generalize n.drew=G at*;have H:=u.out.F.2 0 oS;have M:=u.out.F.2 1 oS;simp only[List.getD,List.getElem?_cons_zero,List.getElem?_cons_succ,HL]at H M;have bo:=gU m;have S:w2 (∀k,gj a num at_ m (k+1)=dO a num at_ m (gj a num at_ m k) (31+k) (ar m+16) wP):=λk=>rfl;have av:w2 (∀K k,eF a num at_ m K (k+1)=dO a num at_ m (eF a num at_ m K k) (1+k) (ar m+5) R):=λK k=>rfl;have a0:w2 (ga a num at_ m left=eF a num at_ m (min left 2078-30) (min left 31)):=rfl;have T:w2 (∀k,at_+30+k<=b.size\/k=0->okO b (gj a num at_ m k)):=yj oO s B;have a1:w2 (∀K,at_+30+K<=b.size\/K=0->∀k,at_+k<=b.size->okO b (eF a num at_ m K k)):=λK t=>vQ K oO s B t;go_wp2_with(first|(go_at_call 132;refine(fY m _).mono ?_;rintro e A ⟨rfl,V⟩;rw[V];clear V;generalize ar m=N at*)|(refine qE rfl 181 rfl _ oJ (w.heap.size+4) r.out.symm ?_)|(rw[<-r.out];refine bG rfl 181 _ _ rfl 181 _ (aF.aN ⟨0,0,0,R,1073741824,at_,m⟩) rfl rfl iE rfl (aF.one _) ?_))
 rw[r.out];have X:w2 (BS w (G.alloc (.cells (aF.aN ⟨0,0,0,R,1073741824,at_,m⟩).toArray 181)) c f cap hb b a num at_ m (gj a num at_ m 0)):=⟨u.out.below (ax _ _),ag.new _ _ _ _ r.out.symm⟩;clear r u H M;generalize G.alloc (.cells (aF.aN ⟨0,0,0,R,1073741824,at_,m⟩).toArray 181)=a8 at*;obtain⟨K,t⟩:∃K,K=min left 2078:=⟨_,rfl⟩;have al:=aa t;have bq:K<=2078:=oO;have bs:K<=left:=oO;have a2:min (left:Int) 2078=(K:Int):=oO;clear t;go_loopw [11] (λi wr=>∃k:Nat,(31+k<=K+1\/k=0)/\i=I J ((31+k:Nat):Int)/\w2 (BS w wr c f cap hb b a num at_ m (gj a num at_ m k))) (λi _=>K+1-(intOf i).toNat)
 case atStart=>exact⟨0,.inr rfl,rfl,X.out⟩
 case round=>
  clear X;obtain⟨k,am,rfl,hB⟩:=hrel;by_cases a3:31+k<=K
  ·have g:w2 (okO b (gj a num at_ m k)):=T.out k oO;have x:=aa (S.out k);go_wp2_with(go_at_call 228;(refine(Hq (31+k) (N+16) num at_ m wP (gj a num at_ m k) wr c f cap hb _ _ _ _ b a hB.out.S hB.out.N hB.out.F hB.out.X hB.out.O oO s oO g.out.1 g.out.2.1 g.out.2.2.1 hn g.out.2.2.2).mono ?_;rintro e ap ⟨rfl,p,q⟩;have y:=aa (hB.out.step D P p q);clear p q))
   refine⟨⟨k+1,by omega,by go_num,?_⟩,by simp[intOf];omega⟩;rw[x.out];exact y.out
  ·have Y:k=K-30:=oO;have Z:w2 (BS w wr c f cap hb b a num at_ m (eF a num at_ m (K-30) 0)):=by
    show BS _ _ _ _ _ _ _ _ _ _ _ (gj a num at_ m (K-30));rw[<-Y];exact hB.out
   clear hB Y T S;have bt:(K:Int)<((31+k:Nat):Int):=oO;clear a3 am;generalize((31+k:Nat):Int)=a9 at*;obtain⟨L,O⟩:∃L,L=min left 31:=⟨_,rfl⟩;have a4:=aa O;have bv:L<=31:=oO;have bx:L<=left:=oO;have bz:min (left:Int) 31=(L:Int):=oO;clear O;have a5:w2 (∀d,at_+d<=b.size->okO b (eF a num at_ m (K-30) d)):=a1.out (K-30) oO;go_wp2;clear a2;go_loopw [12] (λi wr=>∃d:Nat,d<=L/\i=I J ((1+d:Nat):Int)/\w2 (BS w wr c f cap hb b a num at_ m (eF a num at_ m (K-30) d))) (λi _=>L+1-(intOf i).toNat)
   case atStart=>exact⟨0,by omega,rfl,Z.out⟩
   case round=>
    clear Z;obtain⟨d,bb,rfl,hB⟩:=hrel;by_cases b1:1+d<=L
    ·have g:w2 (okO b (eF a num at_ m (K-30) d)):=a5.out d oO;have x:=aa (av.out (K-30) d);go_wp2_with(go_at_call 228;(refine(Hq (1+d) (N+5) num at_ m R (eF a num at_ m (K-30) d) wr c f cap hb _ _ _ _ b a hB.out.S hB.out.N hB.out.F hB.out.X hB.out.O oO s oO g.out.1 g.out.2.1 g.out.2.2.1 hn g.out.2.2.2).mono ?_;rintro e ap ⟨rfl,p,q⟩;have y:=aa (hB.out.step D P p q);clear p q))
     refine⟨⟨d+1,by omega,by go_num,?_⟩,by simp[intOf];omega⟩;rw[x.out];exact y.out
    ·have ab:d=L:=oO;have o:w2 (BS w wr c f cap hb b a num at_ m (ga a num at_ m left)):=by
      have l:=hB.out;rw[ab,a4.out,al.out,<-a0.out]at l;exact l
     clear hB ab;obtain⟨j,z⟩:∃j,j=ga a num at_ m left:=⟨_,rfl⟩;rw[<-z]at o;have a6:=aa z;clear z;go_wp2_with(first|(refine aP rfl 181 _ rfl _ N1 rfl ⟨w.heap.size+4,0,U⟩ j.aN iE rfl (sX o.out.O.cells) ?_)|(refine aZ rfl 181 _ _ rfl 181 (w.heap.size+3) 0 _ j.aN rfl rfl o.out.Z iE (by show 7<=7;omega) j.one ?_;rw[jR _ j.aN (by rfl)]))
     (try simp only[Exit.inBlock,Exit.then])
     refine bodyPost_ret (results_cell_row rfl _ _ (w.heap.size+3) 181 j.aN.toArray (0,0) _ rfl (o.out.Z.set _) N1 rfl iE) rfl ?_;exact⟨by rw[<-a6.out];rfl,Lq o.out.B oO _⟩
end
end Go.Proofs.YtmnlkganmgcpbaaGreatDoor
