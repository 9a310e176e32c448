import Derived.Test.YtmnlkganmgcpbaaGreatDoorQi13
import Derived.Deep.OwnRows
set_option maxRecDepth 100000
set_option maxHeartbeats 4000000
set_option linter.unusedVariables false
set_option linter.unusedSectionVars false
set_option linter.unusedSimpArgs false
set_option linter.defProp false
open Go.Value renaming int->I,int->zz
open Go.IntKind renaming i64->J
open Bool renaming false->R,true->wP
open Option renaming none->U,some->gk
open Go renaming World->wR,Calls->wS,Value->xf,bodyPost_ret->y4,TypeId->Ar,frozen_of_row->CH,madeCells->C2,results->HD,maxLen->HG
open Go.Proofs.Tryz renaming prog->w1,underlying64->z1,results125->VY,results110->Ws,ntmps125->WY,func125->Xf
open Go.RowKit renaming Hid->w2,Below->y5,wrap64->UN
open Go.RowKit.Below renaming refl->w3
open _root_ renaming beq_eq_false_iff_ne->w4,if_neg->w6,Option->xv
open Nat renaming le_refl->w5,zero_le->x1,lt_of_lt_of_le->x6,eq_zero_or_pos->HS
open List renaming getD->x4,replicate->y0,length_take->Ai,take_zero->A0,take_succ_cons->A3,drop_succ_cons->A4,getElem?_eq_none->B4,drop_zero->CQ,eq_nil_of_length_eq_zero->E1,length_set->L2,getElem_of_mem->Ux
open Go.World renaming cell?_setCell_other->At,ownsRow_nil->C1,cell?_of_block->Ur,frozen?_setCell->Wi
open Go.Builtin renaming append_->Ut,firstCells->V6,lenOf->W1
open Go.Proofs.Tryz
namespace Go.Proofs.YtmnlkganmgcpbaaGreatDoor
section
open Go.RowKit
theorem So (c s d a:Int) (w:wR):
 wS w1 167 #[aU c s d,I J a] w λe f=>e= .returned (.bool (sK s a))/\y5 w.heap.size w f:=by
 by_cases g:0<=a
 ·by_cases i:a<s
  ·have b:w2 (sK s a=wP):=by show _=_;unfold sK;simp;omega
   go_enter func167,ntmps167;go_wp2;go_ret;exact⟨bh (by rw[b.out]),(w3 _ _).alloc (w5 _) _⟩
  ·have b:w2 (sK s a=R):=by show _=_;unfold sK;simp;omega
   go_enter func167,ntmps167;go_wp2;go_ret;exact⟨bh (by rw[b.out]),(w3 _ _).alloc (w5 _) _⟩
 ·have b:w2 (sK s a=R):=by show _=_;unfold sK;simp;omega
  go_enter func167,ntmps167;go_wp2;go_ret;exact⟨bh (by rw[b.out]),(w3 _ _).alloc (w5 _) _⟩
theorem Dx (c S b:Nat) (a:Int) (w:wR) (d:VF c S b) (l:0<=a) (g:a<S):
 wS w1 173 #[aU c S b,I J a] w λe i=>e= .returned (I J (bW S b a.toNat:Nat))/\y5 w.heap.size w i:=by
 have n:=d.le;have p:=d.aO;have j:=Lib.hid d;clear d;have k:w2 (((S:Int)-2).toNat=S-2):=by show _=_;omega
 go_enter func173,ntmps173;go_wp2_with fail
 refine(J8 c S b _ _ _ j.out l g oO oO).mono ?_;rintro e o ⟨rfl,f⟩;have m:=Lib.hid (dP.step (dP.start w c S b 89) f);clear f;go_wp2_with fail
 go_ret;exact⟨bM (by rw[k.out];rfl),m.out.below⟩
end
section
open Go.RowKit Go.WideMaps Go.Maps
theorem dP.grown {w wr b:wR} {c s a:Int} {k:Nat} (h:dP w c s a wr) (hg:wr.grownBy b (gk k)) (m:w.heap.size<k):dP w c s a b:=by
 obtain⟨d,e,f,g,i⟩:=h;have hb:=hg.block w.heap.size e oT;exact⟨d.grown hg d.size (λl j=>by cases j;omega),x6 e hg.size,(Ur hb).trans f,(Ur hb).trans g,(Ur hb).trans i⟩
end
section
open Go.RowKit
abbrev fE (c s a e:Int):xf:= .tuple #[.agg #[I J c,I J s,I J a],I J e]
def tk (d a:Int):Bool:=decide (1<=d)&&decide (d<=12)&&iF a d
theorem Iq (d a:Int) (b:1<=d) (c:d<=12):bp 2 ((2^d.toNat:Nat):Int) a=iF a d:=by
 obtain⟨D,rfl⟩:=Int.eq_ofNat_of_zero_le (by omega:0<=d);rw[oB,Int.toNat_natCast,Int.toNat_natCast,yR];have e:(((D+1:Nat):Int)-1)=(D:Int):=oO;rw[e,show D+1-1=D from by omega];simp;intro _;omega
theorem Fi (d a:Int) (w:wR) (h:d<1\/12<d):
 wS w1 110 #[I J d,I J a] w λe b=>e= .returned (fE 0 0 0 3)/\y5 w.heap.size w b:=by
 rcases h with h|h
 ·go_enter func110,ntmps110;go_wp2;exact y4 (v:=fE 0 0 0 3) (by simp[HD,Ws,go_sem]) rfl ⟨rfl,(w3 _ _).alloc (w5 _) _⟩
 ·have c:¬d<1:=oO;go_enter func110,ntmps110;go_wp2;exact y4 (v:=fE 0 0 0 3) (by simp[HD,Ws,go_sem]) rfl ⟨rfl,(w3 _ _).alloc (w5 _) _⟩
theorem Lb (d c s:Int) (w:wR) (o:1<=d) (p:d<=12) (l:c<=9223372036854775807) (hs:UN (2^d.toNat)=s) (ok:Bool) (k:bp 2 s c=ok):
 wS w1 110 #[I J d,I J c] w λe m=>e= .returned (if ok then fE 2 s c 0 else fE 0 0 0 38)/\y5 w.heap.size w m:=by
 have n:=Lib.hid k;clear k;go_enter func110,ntmps110;go_wp2_with fail
 refine(kq _ _ _ _ l).mono ?_;rintro e a ⟨rfl,f⟩;rw[n.out];obtain⟨b,g⟩:=PI f;have c0:a.cell? ⟨w.heap.size,0,U⟩=gk (I J 0):=by rw[b _ _ oT];go_simp
 have c1:a.cell? ⟨w.heap.size,1,U⟩=gk (I J 0):=by rw[b _ _ oT];go_simp
 have i:a.cell? ⟨w.heap.size,2,U⟩=gk (I J 0):=by rw[b _ _ oT];go_simp
 have q:a.frozen? ⟨w.heap.size,0,U⟩=R:=by rw[g _ _ oT];go_simp
 have r:a.frozen? ⟨w.heap.size,1,U⟩=R:=by rw[g _ _ oT];go_simp
 have t:a.frozen? ⟨w.heap.size,2,U⟩=R:=by rw[g _ _ oT];go_simp
 have y:w.heap.size+1<a.heap.size:=by have:=f.size;simp at this;omega
 have u:a.cell? ⟨w.heap.size+1,0,U⟩=gk (I J 2):=by rw[b _ _ oS];go_simp
 have v:a.cell? ⟨w.heap.size+1,1,U⟩=gk (I J s):=by rw[b _ _ oS];go_simp
 have x:a.cell? ⟨w.heap.size+1,2,U⟩=gk (I J c):=by rw[b _ _ oS];go_simp
 have j:w2 (y5 w.heap.size w a):=(((w3 _ _).alloc (w5 _) _).alloc oS _).trans (f.mono oT);clear b g f;cases ok
 ·go_wp2;exact y4 (v:=fE 0 0 0 38) (by simp[HD,Ws,go_sem,c0,c1,i]) rfl ⟨rfl,((j.out.setCell oS _).setCell oS _).setCell oS _⟩
 ·go_wp2;exact y4 (v:=fE 2 s c 0) (by simp[HD,Ws,go_sem,c0,c1,i]) rfl ⟨rfl,((j.out.setCell oS _).setCell oS _).setCell oS _⟩
def jA (d a:Int):xf:=if tk d a then fE 2 ((2^d.toNat:Nat):Int) a 0 else if 1<=d/\d<=12 then fE 0 0 0 38 else fE 0 0 0 3
theorem BN (d:Int) (a:1<=d) (b:d<=12):UN (2^d.toNat)=((2^d.toNat:Nat):Int):=Nh d.toNat oO
theorem nE (d a:Int) (w:wR) (c:a<=9223372036854775807):
 wS w1 110 #[I J d,I J a] w λe b=>e= .returned (jA d a)/\y5 w.heap.size w b:=by
 by_cases h:1<=d/\d<=12
 ·refine(Lb d a _ w h.1 h.2 c (BN d h.1 h.2) _ rfl).mono ?_;rintro e b ⟨rfl,hb⟩;refine⟨?_,hb⟩;unfold jA tk;rw[Iq d a h.1 h.2];cases iF a d<;>simp[h.1,h.2]
 ·have:jA d a=fE 0 0 0 3:=by
   unfold jA tk;rw[w6 oT,w6 h]
  rw[this];exact Fi d a w oO
theorem CS (d a:Int) (w:wR) (h:d<1\/12<d):
 wS w1 125 #[I J d,I J a] w λe b=>e= .returned (fE 0 0 0 3)/\y5 w.heap.size w b:=by
 rcases h with h|h
 ·go_enter Xf,WY;go_wp2;exact y4 (v:=fE 0 0 0 3) (by simp[HD,VY,go_sem]) rfl ⟨rfl,(w3 _ _).alloc (w5 _) _⟩
 ·have c:¬d<1:=oO;go_enter Xf,WY;go_wp2;exact y4 (v:=fE 0 0 0 3) (by simp[HD,VY,go_sem]) rfl ⟨rfl,(w3 _ _).alloc (w5 _) _⟩
theorem Hl (d a z:Int) (w:wR) (c:1<=d) (f:d<=12) (g:UN (2^(d+1).toNat)=z) (i:z<=a):
 wS w1 125 #[I J d,I J a] w λe b=>e= .returned (fE 0 0 0 38)/\y5 w.heap.size w b:=by
 go_enter Xf,WY;go_wp2;exact y4 (v:=fE 0 0 0 38) (by simp[HD,VY,go_sem]) rfl ⟨rfl,(w3 _ _).alloc (w5 _) _⟩
theorem JS (d a s z:Int) (w:wR) (j:1<=d) (c:d<=12) (hs:UN (2^d.toNat)=s) (k:UN (2^(d+1).toNat)=z) (l:a<z) (g:a<=9223372036854775807) (ok:Bool) (b:iF a d=ok):
 wS w1 125 #[I J d,I J a] w λe f=>e= .returned (if ok then fE 2 s a 0 else fE 0 0 0 38)/\y5 w.heap.size w f:=by
 have i:=Lib.hid b;clear b;go_enter Xf,WY;go_wp2_with fail
 refine(FD _ _ _ g oO c).mono ?_;rintro e m ⟨rfl,rfl⟩;rw[i.out];cases ok
 ·go_wp2;exact y4 (v:=fE 0 0 0 38) (by simp[HD,VY,go_sem]) rfl ⟨rfl,(w3 _ _).alloc (w5 _) _⟩
 ·go_wp2;exact y4 (v:=fE 2 s a 0) (by simp[HD,VY,go_sem]) rfl ⟨rfl,(w3 _ _).alloc (w5 _) _⟩
theorem mj (d a:Int) (w:wR) (f:a<=9223372036854775807):
 wS w1 125 #[I J d,I J a] w λe b=>e= .returned (jA d a)/\y5 w.heap.size w b:=by
 by_cases h:1<=d/\d<=12
 ·have g:=Nh (d+1).toNat oO;by_cases c:a<UN (2^(d+1).toNat)
  ·refine(JS d a _ _ w h.1 h.2 (BN d h.1 h.2) rfl c f _ rfl).mono ?_;rintro e b ⟨rfl,hb⟩;refine⟨?_,hb⟩;unfold jA tk;cases iF a d<;>simp[h.1,h.2]
  ·have hn:iF a d=R:=by
    unfold iF;rw[g]at c;have:¬(bl a.toNat:Int)=d+1:=by
     intro e;have:=(bc a.toNat (d+1).toNat).1 oO;omega
    rw[decide_eq_false this];simp
   have:jA d a=fE 0 0 0 38:=by
    unfold jA tk;rw[hn,w6 oS,if_pos h]
   rw[this];exact Hl d a _ w h.1 h.2 rfl oO
 ·have:jA d a=fE 0 0 0 3:=by
   unfold jA tk;rw[w6 oT,w6 h]
  rw[this];exact CS d a w oO
theorem an.drewN {W:wR} {b:Nat} {a:List xf} (h:an W b a) (n:Nat):an (W.drewN n) b a:=h
def RD (w:wR) (A:xv Addr) (b:List Int):Prop:=
 0<b.length->∃c,A=gk c/\c.block<w.heap.size/\∀a,a<b.length->w.cell? (c.add a)=gk (I J (b.getD a 0))
theorem RD.below {W a:wR} {A:xv Addr} {b:List Int} (h:RD W A b) (hb:af W a):RD a A b:=λhn=>by
 obtain⟨d,e,hl,hc⟩:=h hn;exact⟨d,e,x6 hl hb.size,λc f=>(hb.cell (by rw[aD];exact hl)).trans (hc c f)⟩
theorem RD.alloc {W:wR} {A:xv Addr} {b:List Int} (h:RD W A b) (a:Obj):RD (W.alloc a) A b:=h.below ((w3 _ _).alloc (w5 _) a)
theorem RD.drew {W:wR} {A:xv Addr} {a:List Int} (h:RD W A a):RD W.drew A a:=h
theorem RD.drewN {W:wR} {A:xv Addr} {a:List Int} (h:RD W A a) (n:Nat):RD (W.drewN n) A a:=h
theorem RD.dw (W:wR) (A:xv Addr):RD W A []:=λh=>absurd h oS
theorem RD.bL {W:wR} {base:Nat} {e:Ar} {n:Nat} {A:xv Addr} {c:Nat} {a:List Int} (h:W.ownsRow base e 1 (.slice A n c) n (a.map (zz .i64))):RD W A a:=λhn=>by
 have hl:a.length=n:=by have:=h.1;simpa using this
 obtain⟨b,cap,i,_,l⟩:=h.form oO;have j:A=gk ⟨b,0,U⟩:=by injection i
 subst j;refine⟨_,rfl,l,λg k=>h.cells (g:=b) rfl g _ ?_⟩;simp[x4,k]
def zl (a:List Nat):List Int:=a.map (λn:Nat=>(n:Int))
theorem ao (a:List Nat):(zl a).length=a.length:=by simp[zl]
theorem bT (a:List Nat) (b:Nat):(zl a).getD b 0=((a.getD b 0:Nat):Int):=by
 unfold zl;by_cases h:b<a.length
 ·simp[x4,h]
 ·simp[x4,B4 (show a.length<=b by omega)]
def az (w:wR) (v:xf) (a:List Int):Prop:=∃A c,v= .slice A a.length c/\a.length<=c/\c<=HG/\RD w A a
theorem az.below {W a:wR} {v:xf} {b:List Int} (h:az W v b) (hb:af W a):az a v b:=by
 obtain⟨A,c,rfl,d,e,f⟩:=h;exact⟨A,c,rfl,d,e,f.below hb⟩
theorem az.dw (w:wR):az w (.slice U 0 0) []:=⟨U,0,rfl,by simp,by simp,RD.dw _ _⟩
theorem az.bL {W:wR} {base:Nat} {e:Ar} {n:Nat} {v:xf} {a:List Int} (h:W.ownsRow base e 1 v n (a.map (zz .i64))):az W v a:=by
 have hl:a.length=n:=by have:=h.1;simpa using this
 rcases h.2 with⟨rfl,rfl⟩|⟨b,cap,c,rfl,_,_,g,rz,_⟩
 ·have:a=[]:=E1 hl;subst this;exact az.dw _
 ·refine⟨_,cap,by rw[hl],by omega,rz,RD.bL h⟩
theorem Ey {s:Int} {a:List Int} {k:Nat} (b:k<a.length) (h:¬(0<=a.getD k 0/\a.getD k 0<s)):iQ s a=R:=by
 unfold iQ;rw[List.all_eq_false];refine⟨a[k],List.getElem_mem b,?_⟩;have e:a.getD k 0=a[k]:=by simp[x4,b]
 rw[e]at h;simpa[Classical.not_and_iff_not_or_not]using h
theorem Ib {s:Int} {xs:List Int} (h:∀b,b<xs.length->0<=xs.getD b 0/\xs.getD b 0<s):iQ s xs=wP:=by
 unfold iQ;rw[List.all_eq_true];intro a d;obtain⟨b,c,rfl⟩:=Ux d;have:=h b c;rw[List.getD_eq_getElem?_getD,List.getElem?_eq_getElem c]at this;simpa using this
theorem Et (c s d:Int) (a:List Int) (A:xv Addr) (l:Nat) (w:wR) (v:a.length<=9223372036854775807) (g:RD w A a):
 wS w1 190 #[aU c s d,.slice A a.length l] w (au (.bool (iQ s a)) w):=by
 have q:=aa (g.alloc (.cells #[I J c,I J s,I J d] 89));clear g;generalize hn:a.length=n at*;have e:=aa hn;clear hn;go_enter func190,ntmps190;exact SK
abbrev gG (a S b bl:Nat):xf:= .agg #[I J a,I J S,.slice (gk ⟨b,0,U⟩) (S-1) (S-1),.slice (gk ⟨bl,0,U⟩) S S]
abbrev mU (a S b bl:Nat):Obj:= .cells #[I J a,I J S,.slice (gk ⟨b,0,U⟩) (S-1) (S-1),.slice (gk ⟨bl,0,U⟩) S S] 200
def dH (w:wR) (S a c bl:Nat):Prop:=c<w.heap.size/\bl<w.heap.size/\(∀b,b<S-1->w.cell? ⟨c,b,U⟩=gk (I J ((aM S a (aV S a) b:Nat):Int)))/\
 (∀x,x<S->x≠0->w.cell? ⟨bl,x,U⟩=gk (I J ((ff S a x:Nat):Int)))
theorem dH.below {W b:wR} {S a c bl:Nat} (h:dH W S a c bl) (hb:af W b):dH b S a c bl:=
 ⟨x6 h.1 hb.size,x6 h.2.1 hb.size,λd e=>(hb.cell h.1).trans (h.2.2.1 d e),λx f g=>(hb.cell h.2.1).trans (h.2.2.2 x f g)⟩
theorem dH.alloc {W:wR} {S a c bl:Nat} (h:dH W S a c bl) (b:Obj):dH (W.alloc b) S a c bl:=h.below ((w3 _ _).alloc (w5 _) b)
theorem dH.drewN {W:wR} {S a b bl:Nat} (h:dH W S a b bl) (n:Nat):dH (W.drewN n) S a b bl:=h
theorem VF.Kg {a S b:Nat} (h:VF a S b):(a=2/\b≠0)\/(a≠2/\b=0):=by
 rcases h with⟨e,f,c,_⟩|⟨d,e,_,f,_,c,_⟩
 ·right;omega
 ·left;refine⟨c,?_⟩;rintro rfl;have:bl 0=0:=by decide
  omega
theorem DH (g S b i bl x y:Nat) (w:wR) (a:VF g S b) (j:x<S) (k:y<S) (l:dH w S b i bl):
 wS w1 194 #[gG g S i bl,I J x,I J y] w (au (I J ((aA S b x y:Nat):Int)) w):=by
 have p:w2 (af w (w.alloc (mU g S i bl))):=(w3 _ _).alloc (w5 _) _;by_cases e:x=0
 ·subst e;have o:=aa (q8 a k);clear a l;go_enter func194,ntmps194;go_wp2;go_ret;exact⟨bM (by rw[o.out];rfl),p.out⟩
 by_cases f:y=0
 ·subst f;have o:=aa (pD a j);clear a l;go_enter func194,ntmps194;go_wp2;go_ret;exact⟨bM (by rw[o.out];rfl),p.out⟩
 have t:=a.le;have C:=a.aO;have u:=(fi a j e).1;have v:=(fi a k f).1;have n:=l.alloc (mU g S i bl);have c1:=n.2.2.2 x j e;have z:=n.2.2.2 y k f;have q:(ff S b x+ff S b y)%(S-1)<S-1:=Nat.mod_lt _ oO;have r:=n.2.2.1 _ q;rw[Ie a j k e f]at r;generalize aA S b x y=s at*;generalize ff S b x=c at*;generalize ff S b y=d at*;have e1:((c:Int)+d).tmod ((S:Int)-1)=(((c+d)%(S-1):Nat):Int):=by
  rw[show(c:Int)+d=((c+d:Nat):Int)from by omega,show(S:Int)-1=((S-1:Nat):Int)from by omega];exact(Int.ofNat_tmod _ _).symm
 generalize(c+d)%(S-1)=m at*;have e2:J.wrap ((c:Int)+d)=(c:Int)+d:=aG _ oO oO;have A:((x:Int)==0)=R:=by rw[w4];omega
 have B:((y:Int)==0)=R:=by rw[w4];omega
 clear n l a e f;go_enter func194,ntmps194;go_wp2;go_quiet (fail)
 go_wp2;go_ret;exact⟨rfl,cS p.out _⟩
theorem OD (g S c i bl x y:Nat) (w:wR) (d:VF g S c) (j:x<S) (k:y<S) (e:y≠0) (n:dH w S c i bl):
 wS w1 192 #[gG g S i bl,I J x,I J y] w (au (I J ((aA S c x (bW S c y):Nat):Int)) w):=by
 have o:w2 (af w (w.alloc (mU g S i bl))):=(w3 _ _).alloc (w5 _) _;by_cases f:x=0
 ·subst f;have p:=aa (q8 d (gM d (x:=y)));clear d n k j e;go_enter func192,ntmps192;go_wp2;go_ret;exact⟨bM (by rw[p.out];rfl),o.out⟩
 have t:=d.le;have B:=d.aO;have u:=(fi d j f).1;have v:=(fi d k e).1;have l:=n.alloc (mU g S i bl);have c1:=l.2.2.2 x j f;have z:=l.2.2.2 y k e;have q:(ff S c x+(S-1)-ff S c y)%(S-1)<S-1:=Nat.mod_lt _ oO;have r:=l.2.2.1 _ q;rw[Iw d j k f e]at r;generalize aA S c x (bW S c y)=s at*;generalize ff S c x=a at*;generalize ff S c y=b at*;have e1:((a:Int)-b+S-1).tmod ((S:Int)-1)=(((a+(S-1)-b)%(S-1):Nat):Int):=by
  rw[show(a:Int)-b+S-1=((a+(S-1)-b:Nat):Int)from by omega,show(S:Int)-1=((S-1:Nat):Int)from by omega];exact(Int.ofNat_tmod _ _).symm
 generalize(a+(S-1)-b)%(S-1)=m at*;have e2:J.wrap ((a:Int)-b)=(a:Int)-b:=aG _ oO oO;have e3:J.wrap ((a:Int)-b+S)=(a:Int)-b+S:=aG _ oO oO;have e4:J.wrap ((a:Int)-b+S-1)=(a:Int)-b+S-1:=aG _ oO oO;have A:((x:Int)==0)=R:=by rw[w4];omega
 clear l n d f e;go_enter func192,ntmps192;go_wp2;go_quiet (fail)
 go_wp2;go_ret;exact⟨rfl,cS o.out _⟩
theorem VF.bin {c S b:Nat} (h:VF c S b) (e:b≠0):∃d,d<=12/\S=2^d:=by
 rcases h with⟨a,_⟩|⟨d,_,a,_,f,_⟩
 ·exact absurd a e
 ·exact⟨d,a,f⟩
theorem Fz (b S c e bl x y:Nat) (w:wR) (a:VF b S c) (j:x<S) (k:y<S):
 wS w1 193 #[gG b S e bl,I J x,I J y] w (au (I J ((bD S c x y:Nat):Int)) w):=by
 have g:w2 (af w (w.alloc (mU b S e bl))):=(w3 _ _).alloc (w5 _) _;have l:=a.le;rcases a.Kg with⟨rfl,f⟩|⟨i,rfl⟩
 ·have d:w2 (bits BinOp.xor J (x:Int) (y:Int)=((bD S c x y:Nat):Int)):=by
   show _=_;rw[iw _ _ oO oO];unfold bD;rw[w6 f]
  clear a f;go_enter func193,ntmps193;go_wp2;go_ret;exact⟨bM d.out,g.out⟩
 ·have n:=a.aO;have d:w2 (((x:Int)-y+S)%S=((bD S 0 x y:Nat):Int)):=by
   show _=_;unfold bD;rw[if_pos rfl,show(x:Int)-y+S=((x+S-y:Nat):Int)from by omega];exact(Int.natCast_emod _ _).symm
  have m:((b:Int)==2)=R:=by rw[w4];omega
  clear a i;go_enter func193,ntmps193;go_wp2;go_ret;exact⟨bM d.out,g.out⟩
theorem Oe (a:List Int):∀u∈a.map (zz .i64),u.oneCell'=wP:=by
 intro u b;obtain⟨y,_,rfl⟩:=List.mem_map.1 b;rfl
section
variable {P : Program} (w : wR)
theorem zi (base:Nat) (a g e:Ar) (f:TypeInfo) (b:P.underlying a=gk (.slice e)) (d:P.info? e=gk f)
 (v:xf) (n:Nat) (i:List xf) (k:w.ownsRow base e 1 v n i) (c:Nat):(Ut #[a,a] g #[v,.slice U 0 c]).run P w= .ok v w:=by
 rcases k.2 with⟨rfl,rfl⟩|⟨l,cap,m,rfl,_,_,j,_⟩
 ·simp[Ut,run_underlying b,sizeOf,typeInfo,d,W1,V6]
 ·simp[Ut,run_underlying b,sizeOf,typeInfo,d,W1,V6,j,storeCells]
theorem rC (base:Nat) (g j e:Ar) (b:TypeInfo) (z:xf) (o:P.underlying g=gk (.slice e)) (p:P.info? e=gk b) (t:b.zero=gk z)
 (N:b.size=1) (H:b.bytes=8) (K:z.cells.size=1)
 (v:xf) (n:Nat) (q:List Int) (l:w.ownsRow base e 1 v n (q.map (zz .i64)))
 (A:xv Addr) (m c:Nat) (a:List Int) (x:m=a.length) (y:RD w A a) (B:A=U->m=0)
 (L:(n+m)* 8<=140737488355328) (O:base<=w.heap.size):
 ∃f i,(Ut #[g,g] j #[v,.slice A m c]).run P w= .ok f i/\i.ownsRow base e 1 f (n+m) ((q++a).map (zz .i64))/\w.grownBy i v.ownBlock/\
  (f.ownBlock=v.ownBlock\/f.ownBlock=gk w.heap.size):=by
 subst x;rcases A with _|r
 ·have C:=B rfl;have D:a=[]:=E1 C;subst D;exact⟨v,w,zi w base g j e b o p v n _ l c,by simpa using l,World.grownBy.refl w _,.inl rfl⟩
 ·have Q:∀d u,(a.map (zz .i64))[d]?=gk u->w.cell? (r.add d)=gk u:=by
   intro d u k;have s:d<a.length:=by
    rcases Nat.lt_or_ge d a.length with h|h
    ·exact h
    ·rw[B4 (by simpa using h)]at k;cases k
   obtain⟨S,h,_,hc⟩:=y oO;injection h with h;subst h;rw[hc d s];simpa[x4,s]using k
  obtain⟨f,i,M,E,F,_,G⟩:=run_append_own_at (P:=P) w base g j e b z 1 8 o p t N H K oO v n _ l r a.length c (a.map (zz .i64)) oS Q (Oe a)
   (by simp only[HG];omega) L O
  exact⟨f,i,M,by rw[List.map_append];exact E,F,G⟩
omit w in
theorem eG {w:wR} {ops:Array Oper} {rest:List Oper} {o:Oper} {a:Act} {Q:Exit->Act->wR->Prop} (hgd:o.guard=U) (s x:Operand) (t:Ar)
 (ho:o.op= .call {callee:= .builtin .append,args:=#[s,x],argTypes:=#[t,t]})
 (base:Nat) (e:Ar) (i:TypeInfo) (z:xf) (ht:P.underlying t=gk (.slice e)) (hi:P.info? e=gk i) (hz:i.zero=gk z)
 (hsize:i.size=1) (hby:i.bytes=8) (hzs:z.cells.size=1)
 (v:xf) (n:Nat) (xs:List Int) (hs:a.eval s=v) (hown:w.ownsRow base e 1 v n (xs.map (zz .i64)))
 (A:xv Addr) (m c:Nat) (ys:List Int) (hx:a.eval x= .slice A m c) (hm:m=ys.length) (hr:RD w A ys)
 (h63:(n+m)* 8<=140737488355328) (hbase:base<=w.heap.size)
 (h:∀v' w',w'.ownsRow base e 1 v' (n+m) ((xs++ys).map (zz .i64))->w.grownBy w' v.ownBlock->(v'.ownBlock=v.ownBlock\/v'.ownBlock=gk w.heap.size)->wpList P ops Q rest (a.put o.dst v') w'):
 wpList P ops Q (o::rest) a w:=by
 refine wpList_plain hgd λK hK=>?_;have hA:A=U->m=0:=by
  intro h0;rcases HS m with h1|h1
  ·exact h1
  ·obtain⟨ad,h2,_⟩:=hr oO;rw[h0]at h2;cases h2
 obtain⟨v',w',hrun,h2,h3,h4⟩:=rC (P:=P) w base t o.type e i z ht hi hz hsize hby hzs v n xs hown A m c ys hm hr hA h63 hbase;unfold Oper.wp execOp;simp only[ho,resolve,invoke,builtin,Sem.run_bind,Sem.run_pure,Result.andThen_ok,List.map_toArray,List.map_cons,List.map_nil,hs,hx,hrun];exact hK _ _ (h v' w' h2 h3 h4)
end
def q6 (a:List Int):Nat->Nat
 |0=>0
 |n+1=>if a.getD n 0=0 then q6 a n else n+1
def wU (a:List Int):List Int:=a.take (q6 a a.length)
theorem Rw (a:List Nat) (n:Nat):q6 (zl a) n=tl a n:=by
 induction n with
 |zero=>rfl
 |succ n b=>unfold q6 tl;rw[bT,b];simp
theorem Pl (a:List Nat):wU (zl a)=zl (eK a):=by
 unfold wU eK;rw[ao,Rw];unfold zl;rw[List.map_take]
theorem RD.take {w:wR} {A:xv Addr} {b:List Int} (h:RD w A b) (k:Nat):RD w A (b.take k):=λhn=>by
 rw[Ai]at hn;obtain⟨c,e,hl,hc⟩:=h oO;refine⟨c,e,hl,λa d=>?_⟩;rw[Ai]at d;rw[hc a oO];simp[x4,show a<k by omega]
theorem Oy (a:List Int) (A:xv Addr) (z:Nat) (w:wR) (L:a.length* 8<=140737488355328) (O:a.length<=z) (B:RD w A a):
 wS w1 116 #[.slice A a.length z] w λe b=>∃v,e= .returned v/\az b v (wU a)/\af w b:=by
 obtain⟨p,q,s,t,u⟩:=info_parts cT;have f:=aa B;clear B;generalize hn:a.length=n at*;have g:=aa hn;clear hn;go_enter func116,ntmps116;go_wp2;go_loop [3] (λo=>∃k:Nat,k<=n/\o=I J k/\w2 (q6 a n=q6 a k)) (λo=>(intOf o).toNat)
 case atStart=>exact⟨n,w5 _,rfl,rfl⟩
 case round=>
  obtain⟨k,M,rfl,hid⟩:=hrel;have y:w2 (∀(m:Nat) (r:xf) (b:wR),m=q6 a n->b.ownsRow w.heap.size 3 1 r (0+m) (([]++a.take m).map (zz .i64))->w.grownBy b U->az b r (wU a)/\af w b):=by
   rintro m r b rfl c hg;refine⟨?_,(w3 _ _).grown hg (w5 _) (λK F=>by cases F)⟩;have e:wU a=a.take (q6 a n):=by unfold wU;rw[g.out]
   rw[e];exact az.bL (by simpa using c)
  have P:w2 (A=U->n=0):=λe=>by
   rcases HS n with h|h
   ·exact h
   ·obtain⟨j,e2,_⟩:=f.out (by rw[g.out];exact h);rw[e]at e2;cases e2
  by_cases H:k=0
  ·subst H;have d:w2 (0=q6 a n):=hid.out.symm;rcases A with _|j
   ·go_wp2_with(at_builtin;refine eG rfl _ _ _ rfl w.heap.size 3 p _ z1 q s t u rfl (.slice U 0 0) 0 [] rfl (C1 _ _ _ _) U 0 _ (a.take 0) rfl oS (f.out.take _) oO (w5 _) ?_;intro v1 i c hg C)
    go_ret;exact⟨v1,rfl,y.out 0 v1 i d.out c hg⟩
   ·go_wp2_with(at_builtin;refine eG rfl _ _ _ rfl w.heap.size 3 p _ z1 q s t u rfl (.slice U 0 0) 0 [] rfl (C1 _ _ _ _) (gk j) 0 _ (a.take 0) rfl oS (f.out.take _) oO (w5 _) ?_;intro v1 i c hg C)
    go_ret;exact⟨v1,rfl,y.out 0 v1 i d.out c hg⟩
  ·obtain⟨m,rfl⟩:∃m,k=m+1:=⟨k-1,by omega⟩;obtain⟨j,rfl,-,hc⟩:=f.out (by rw[g.out];omega);have Q:=hc m (by rw[g.out];omega);clear hc;have D:q6 a (m+1)=if a.getD m 0=0 then q6 a m else m+1:=rfl
   have E:=aa D;clear D;generalize G:a.getD m 0=x at*;clear G;by_cases l:x=0
   ·subst l;have d:w2 (q6 a n=q6 a m):=hid.out.trans (by rw[E.out,if_pos rfl]);go_wp2;exact⟨⟨m,by omega,by go_num,d.out⟩,by simp[intOf]⟩
   ·have d:w2 (m+1=q6 a n):=(hid.out.trans (by rw[E.out,w6 l])).symm;have N:(x==0)=R:=by rw[w4];exact l
    clear l;go_wp2_with(at_builtin;refine eG rfl _ _ _ rfl w.heap.size 3 p _ z1 q s t u rfl (.slice U 0 0) 0 [] rfl (C1 _ _ _ _) (gk j) (m+1) _ (a.take (m+1)) rfl (by rw[Ai,g.out];omega) (f.out.take _) oO (w5 _) ?_;intro v1 i c hg C)
    go_ret;exact⟨v1,rfl,y.out _ v1 i d.out c hg⟩
def cP (s a x:Nat):List Nat->Nat
 |[]=>0
 |c::b=>bU s a (aA s a (cP s a x b) x) c
theorem jl {c s d:Nat} (h:VF c s d) (x:Nat) (b:List Nat) (hl:∀y∈b,y<s):cP s d x b<s:=by
 induction b with
 |nil=>have:=h.aO;unfold cP;omega
 |cons a e f=>exact lR h _ _ (bk h _ _) (hl a oS)
theorem zP (s a x:Nat) (b:List Nat) (m:Nat) (c:m<b.length):cP s a x (b.drop m)=bU s a (aA s a (cP s a x (b.drop (m+1))) x) (b.getD m 0):=by
 rw[List.drop_eq_getElem_cons c];show bU s a (aA s a (cP s a x (b.drop (m+1))) x) b[m]=_;simp[x4,c]
theorem fh {s:Nat} {a:List Nat} (h:ak s a):∀y∈a,y<s:=by
 intro y c;obtain⟨b,d,rfl⟩:=Ux c;have:=h b;simpa[x4,d]using this
abbrev ji (a S b bl:Nat):List xf:=[I J a,I J S,.slice (gk ⟨b,0,U⟩) (S-1) (S-1),.slice (gk ⟨bl,0,U⟩) S S]
theorem ft {W:wR} {b a S c bl:Nat} (h:an W b (ji a S c bl)):W.cell? ⟨b,0,U⟩=gk (I J a)/\W.cell? ⟨b,1,U⟩=gk (I J S)/\W.cell? ⟨b,2,U⟩=gk (.slice (gk ⟨c,0,U⟩) (S-1) (S-1))/\W.cell? ⟨b,3,U⟩=gk (.slice (gk ⟨bl,0,U⟩) S S):=
 ⟨h.2 0 oS,h.2 1 oS,h.2 2 oS,h.2 3 oS⟩
def ep (a:List Nat):Array xf:=(a.map λn:Nat=>zz .i64 n).toArray
theorem iU (a:List Nat) (b:Nat):(ep a)[b]?=(a[b]?).map λn:Nat=>zz .i64 n:=by
 unfold ep;simp
theorem s7 (a:List Nat) (b v:Nat):(ep a).setIfInBounds b (I J v)=ep (a.set b v):=by
 unfold ep;apply Array.ext';simp[List.map_set]
theorem kY (n:Nat):C2 #[zz .i64 0] n=ep (y0 n 0):=by
 apply Array.ext';rw[toList_madeCells_one];unfold ep;simp
abbrev rV (a S b:Nat):Obj:= .cells #[I J a,I J S,I J b] 89
abbrev D5:Obj:= .cells #[I J 0,I J 0,.slice U 0 0,.slice U 0 0] 200
abbrev T1 (b S a c bl:Nat):Obj:= .cells #[I J b,I J S,.slice (gk ⟨c,0,U⟩) a a,.slice (gk ⟨bl,0,U⟩) S S] 200
structure fD (w wr:wR) (C S P T n be bl a:Nat):Prop where
 B:af w wr
 he:w.heap.size+1<be
 hl:w.heap.size+1<bl
 hs:w.heap.size+1<a
 n1:be≠bl
 n2:be≠a
 n3:bl≠a
 F:wr.heap[w.heap.size]?=gk (rV C S P)
 cK:wr.heap[w.heap.size+1]?=gk D5
 E:wr.heap[be]?=gk (.cells (ep (lz S P n)) 3)
 L:wr.heap[bl]?=gk (.cells (ep (nt S P n)) 3)
 A:wr.heap[a]?=gk (T1 C S T be bl)
theorem fD.drewN {w wr:wR} {a S b c n d bl e:Nat} (h:fD w wr a S b c n d bl e) (k:Nat):fD w (wr.drewN k) a S b c n d bl e:=
 ⟨cS h.B k,h.he,h.hl,h.hs,h.n1,h.n2,h.n3,h.F,h.cK,h.E,h.L,h.A⟩
theorem fD.below {w wr d:wR} {a S b c n e bl f:Nat} (h:fD w wr a S b c n e bl f) (hb:af wr d):fD w d a S b c n e bl f:=
 ⟨ae h.B hb,h.he,h.hl,h.hs,h.n1,h.n2,h.n3,(hb.block _ (ay h.F)).trans h.F,(hb.block _ (ay h.cK)).trans h.cK,(hb.block _ (ay h.E)).trans h.E,(hb.block _ (ay h.L)).trans h.L,(hb.block _ (ay h.A)).trans h.A⟩
theorem fD.store {w wr:wR} {g S d f n e bl i:Nat} (o:VF g S d) (q:f=S-1) (h:fD w wr g S d f n e bl i) (hn:n<f):
 fD w ((wr.setCell ⟨e,n,U⟩ (I J ((aM S d (aV S d) n:Nat):Int))).setCell ⟨bl,aM S d (aV S d) n,U⟩ (I J (n:Int))) g S d f (n+1) e bl i:=by
 have p:af w (wr.setCell ⟨e,n,U⟩ (I J ((aM S d (aV S d) n:Nat):Int))):=h.B.setCell (by have:=h.he;simp;omega) _;exact Sf
theorem fD.sM {w wr:wR} {c S a b d bl f:Nat} (e:VF c S a) (g:b=S-1) (h:fD w wr c S a b b d bl f):dH wr S a d bl:=by
 exact SM
def bK (w:wR) (b:Nat) (c:List Nat):Prop:=b<w.heap.size/\∀a,a<c.length->w.cell? ⟨b,a,U⟩=gk (I J ((c.getD a 0:Nat):Int))/\w.frozen? ⟨b,a,U⟩=R
theorem bK.below {W d:wR} {b:Nat} {a:List Nat} (h:bK W b a) (hb:af W d):bK d b a:=
 ⟨x6 h.1 hb.size,λc e=>⟨(hb.cell h.1).trans (h.2 c e).1,(hb.frozen h.1).trans (h.2 c e).2⟩⟩
theorem bK.set {W:wR} {b:Nat} {f:List Nat} (h:bK W b f) (a v:Nat):bK (W.setCell ⟨b,a,U⟩ (I J (v:Int))) b (f.set a v):=by
 refine⟨by simpa using h.1,λc g=>?_⟩;have d:c<f.length:=by simpa using g
 refine⟨?_,by rw[Wi];exact(h.2 c d).2⟩;by_cases e:a=c
 ·subst e;rw[World.cell?_setCell_same W _ _ (h.2 a d).1];simp[x4,d]
 ·rw[At W _ _ _ (λe2=>e (by injection e2))];rw[(h.2 c d).1];simp[x4,List.getElem?_set_ne e]
theorem bK.other {W:wR} {b:Nat} {a:List Nat} (h:bK W b a) (c:Addr) (u:xf) (g:b≠c.block):bK (W.setCell c u) b a:=by
 refine⟨by simpa using h.1,λd f=>⟨?_,by rw[Wi];exact(h.2 d f).2⟩⟩;rw[At W _ _ _ (λe=>g (by rw[e]))];exact(h.2 d f).1
theorem bK.new (W:wR) (b:Nat) (a:List Nat) (c:Ar) (hb:b=W.heap.size):bK (W.alloc (.cells (ep a) c)) b a:=by
 have d:(W.alloc (.cells (ep a) c)).heap[b]?=gk (.cells (ep a) c):=by
  rw[hb];exact heap_alloc_new _ _
 refine⟨ay d,λf e=>⟨?_,CH _ _ _ _ _ d⟩⟩;rw[cell_of_row _ _ _ _ _ _ d,iU];simp[x4,e]
theorem bK.made (W:wR) (b n:Nat) (a:Ar) (hb:b=W.heap.size):bK (W.alloc (.cells (C2 #[zz .i64 0] n) a)) b (y0 n 0):=by
 have c:(W.alloc (.cells (C2 #[zz .i64 0] n) a)).heap[b]?=gk (.cells (ep (y0 n 0)) a):=by
  rw[hb,<-kY];exact heap_alloc_new _ _
 refine⟨ay c,λe d=>⟨?_,CH _ _ _ _ _ c⟩⟩;rw[cell_of_row _ _ _ _ _ _ c,iU];simp at d;simp[x4,d]
theorem bK.rd {W:wR} {b:Nat} {a:List Nat} (h:bK W b a):RD W (gk ⟨b,0,U⟩) (zl a):=λhn=>by
 refine⟨_,rfl,h.1,λd c=>?_⟩;rw[add_plain,Nat.zero_add,bT];exact(h.2 d (by rw[ao]at c;exact c)).1
theorem bK.ints {W:wR} {b c n:Nat} {a:List Nat} (h:bK W b a) (hn:n=a.length) (hc:n<=c) (d:c<=HG):az W (.slice (gk ⟨b,0,U⟩) n c) (zl a):=
 ⟨_,c,by rw[ao,hn],by rw[ao,<-hn];exact hc,d,h.rd⟩
theorem bK.bL {W:wR} {base g:Nat} {e:Ar} {n:Nat} {c:Nat} {b:List Nat} (h:W.ownsRow base e 1 (.slice (gk ⟨g,0,U⟩) n c) n ((zl b).map (zz .i64))) (hn:0<n):bK W g b:=by
 have hl:b.length=n:=by have:=h.1;simpa[ao]using this
 obtain⟨j,cap,k,_,p⟩:=h.form hn;have:j=g:=by injection k with a;injection a with a;injection a with a;exact a.symm
 subst this;refine⟨p,λi l=>⟨?_,?_⟩⟩
 ·have:=h.cells (g:=j) rfl i (I J ((b.getD i 0:Nat):Int)) (by unfold zl;simp[x4,l]);rw[add_plain,Nat.zero_add]at this;exact this
 ·rcases h.2 with⟨a,m⟩|⟨q,s,r,a,m,o,_⟩
  ·cases a
  ·injection a with a;injection a with a;injection a with a;subst a;exact CH _ _ _ _ _ o
structure gW (w wr:wR) (b:List xf) (a:List Nat):Prop where
 B:af w wr
 X:an wr w.heap.size b
 O:bK wr (w.heap.size+1) a
theorem gW.below {w wr W:wR} {b:List xf} {a:List Nat} (h:gW w wr b a) (hb:af wr W):gW w W b a:=⟨ae h.B hb,h.X.below hb,h.O.below hb⟩
theorem gW.set {w wr:wR} {c:List xf} {b:List Nat} (h:gW w wr c b) (a v:Nat):gW w (wr.setCell ⟨w.heap.size+1,a,U⟩ (I J (v:Int))) c (b.set a v):=
 ⟨h.B.setCell oS _,h.X.other _ _ oS,h.O.set a v⟩
theorem gW.start (w:wR) (a S b bl n:Nat) (c:Ar):gW w ((w.alloc (mU a S b bl)).alloc (.cells (C2 #[zz .i64 0] n) c)) (ji a S b bl) (y0 n 0):=
 ⟨((w3 _ _).alloc (w5 _) _).alloc oS _,(an.new _ _ _ _ rfl).alloc _,bK.made _ _ _ _ oS⟩
theorem gW.SZ (w:wR) (a S c bl:Nat) (b:List Nat) (d:Ar):gW w ((w.alloc (mU a S c bl)).alloc (.cells (ep b) d)) (ji a S c bl) b:=
 ⟨((w3 _ _).alloc (w5 _) _).alloc oS _,(an.new _ _ _ _ rfl).alloc _,bK.new _ _ _ _ oS⟩
def fW (s p c:Nat) (b e:List Nat) (d:Nat):Nat->List Nat
 |0=>e
 |a+1=>(fW s p c b e d a).set (d+a) (bD s p ((fW s p c b e d a).getD (d+a) 0) (aA s p c (b.getD a 0)))
def rL (s p:Nat) (a b:List Nat) (M:Nat):Nat->List Nat
 |0=>a
 |k+1=>fW s p (aA s p ((rL s p a b M k).getD (M-1-k+(b.length-1)) 0) (bW s p (b.getD (b.length-1) 0))) b (rL s p a b M k) (M-1-k) b.length
def cL (s p:Nat) (a b:List Nat) (M k:Nat):Nat:=aA s p ((rL s p a b M k).getD (M-1-k+(b.length-1)) 0) (bW s p (b.getD (b.length-1) 0))
def qL (s p:Nat) (a b:List Nat) (M d:Nat):Nat->List Nat
 |0=>y0 d 0
 |k+1=>(qL s p a b M d k).set (M-1-k) (cL s p a b M k)
def dr (a b:List Nat):Nat:=a.length-(b.length-1)
def nu (s p:Nat) (a b:List Nat):List Nat:=qL s p a b (dr a b) (dr a b) (dr a b)
def fK (s p:Nat) (a b:List Nat):List Nat:=eK (rL s p a b (dr a b) (dr a b))
theorem pJ (s p c:Nat) (b d:List Nat) (e a:Nat):(fW s p c b d e a).length=d.length:=by
 induction a with
 |zero=>rfl
 |succ a f=>unfold fW;rw[L2,f]
theorem vi (s p:Nat) (a b:List Nat) (M k:Nat):(rL s p a b M k).length=a.length:=by
 induction k with
 |zero=>rfl
 |succ k d=>unfold rL;rw[pJ,d]
theorem BR (s p:Nat) (a b:List Nat) (M d k:Nat):(qL s p a b M d k).length=d:=by
 induction k with
 |zero=>simp[qL]
 |succ k e=>unfold qL;rw[L2,e]
theorem pw {s:Nat} {b:List Nat} (h:ak s b) (a v:Nat) (g:v<s):ak s (b.set a v):=by
 intro d;have f:=h d;simp only[x4,List.getElem?_set]at f⊢;by_cases e:a=d
 ·subst e;by_cases hl:a<b.length
  ·simp[hl,g]
  ·have:=h a;simp[hl];omega
 ·simp[e];exact f
theorem zt {s n:Nat} (hs:0<s):ak s (y0 n 0):=by
 intro a;by_cases h:a<n
 ·simp[x4,h,hs]
 ·simp[x4,h,hs]
section
variable {c s p : Nat} (h : VF c s p)
include h
theorem vR {d:Nat} {b e:List Nat} (i:ak s e) (g a:Nat):ak s (fW s p d b e g a):=by
 induction a with
 |zero=>exact i
 |succ a f=>exact pw f _ _ (jd h (f _) (bk h _ _))
theorem zc {a b:List Nat} (d:ak s a) (M k:Nat):ak s (rL s p a b M k):=by
 induction k with
 |zero=>exact d
 |succ k e=>exact vR h e _ _
end
def eL (s p:Nat) (a:List Nat) (b c:Nat):Nat->List Nat
 |0=>(y0 (a.length+1) 0).set 0 c
 |k+1=>((eL s p a b c k).set k (bD s p ((eL s p a b c k).getD k 0) (aA s p (a.getD k 0) b))).set (k+1) (a.getD k 0)
def oA (s p:Nat) (a:List Nat) (b c:Nat):List Nat:=eL s p a b c a.length
theorem ru (s p:Nat) (a:List Nat) (b c k:Nat):(eL s p a b c k).length=a.length+1:=by
 induction k with
 |zero=>simp[eL]
 |succ k d=>unfold eL;rw[L2,L2,d]
theorem Ps {c s p:Nat} (h:VF c s p) {a:List Nat} (hl:ak s a) {b d:Nat} (g:b<s) (f:d<s) (k:Nat):ak s (eL s p a b d k):=by
 induction k with
 |zero=>exact pw (zt (by have:=h.aO;omega)) _ _ f
 |succ k e=>exact pw (pw e _ _ (jd h (e _) (bk h _ _))) _ _ (hl k)
theorem G7 (g S b i bl d c:Nat) (a:List Nat) (A:xv Addr) (Q:Nat) (w:wR) (q:VF g S b) (hl:ak S a) (r:d<S) (hc:c<S) (hn:a.length<=8193)
 (E:dH w S b i bl) (F:RD w A (zl a)):
 wS w1 191 #[gG g S i bl,.slice A a.length Q,I J d,I J c] w λe G=>∃v,e= .returned v/\az G v (zl (oA S b a d c))/\af w G:=by
 obtain⟨f,t⟩:∃f,f=a.length+1:=⟨_,rfl⟩;have bb:=run_make_row' (P:=w1) 64 3 (I J 0) 8 z1 cT rfl .i64 .i64 f oO oO;have ad:((a.length:Int)+1)=(f:Int):=oO;have y:=aa q;have T:=aa hl;have V:=aa F;have X:=aa E;have al:=aa r;have D:w2 (∀k,(eL S b a d c k).length=f):=λk=>by rw[ru,t]
 have am:w2 (∀k,ak S (eL S b a d c k)):=Ps q hl r hc;have Y:w2 (oA S b a d c=eL S b a d c a.length):=rfl;have Z:w2 (eL S b a d c 0=(y0 f 0).set 0 c):=by show _=_;rw[t];rfl
 have L:0<f:=oO;have bd:f<=8194:=oO;have be:a.length<f:=oO;clear q hl F E r hc t;generalize M:a.length=n at*;have H:=aa M;clear M;have ap:w2 (gW w ((w.alloc (mU g S i bl)).alloc (.cells ((C2 #[zz .i64 0] f).setIfInBounds 0 (I J (c:Int))) 3)) (ji g S i bl) (eL S b a d c 0)):=by
  rw[Z.out,kY,s7];exact gW.SZ w g S i bl _ _
 have av:w2 ((((w.alloc (mU g S i bl)).alloc (.cells (C2 #[zz .i64 0] f) 3)).cell? ⟨w.heap.size+1,0,U⟩=gk (I J ((0:Nat):Int)))/\((w.alloc (mU g S i bl)).alloc (.cells (C2 #[zz .i64 0] f) 3)).frozen? ⟨w.heap.size+1,0,U⟩=R):=by
  have h:=(gW.start w g S i bl f 3).O.2 0 (by simpa using L);have e:(y0 f 0).getD 0 0=0:=by simp[x4,L]
  rw[e]at h;exact h
 obtain⟨a0,a1⟩:=av.out;go_enter func191,ntmps191;go_wp2;clear ad a0 a1;go_loopw [21] (λo wr=>∃k:Nat,k<=n/\o=I J k/\w2 (gW w wr (ji g S i bl) (eL S b a d c k))) (λo _=>n-(intOf o).toNat)
 case atStart=>exact⟨0,x1 _,rfl,ap⟩
 case round=>
  obtain⟨k,a8,rfl,j⟩:=hrel;by_cases a2:k<n
  ·obtain⟨a9,rfl,-,N⟩:=(V.out.below j.out.B) (by rw[ao,H.out];omega);have K:=N k (by rw[ao,H.out];exact a2);rw[bT]at K;have ab:w2 (a.getD k 0<S):=T.out k;have a3:w2 (eL S b a d c (k+1)=((eL S b a d c k).set k (bD S b ((eL S b a d c k).getD k 0) (aA S b (a.getD k 0) d))).set (k+1) (a.getD k 0)):=rfl;have ac:w2 ((eL S b a d c k).getD k 0<S):=am.out k _;have B:=j.out.O.2 k (by rw[D.out];omega);have C:=j.out.O.2 (k+1) (by rw[D.out];omega);generalize a4:a.getD k 0=x at*;generalize a5:(eL S b a d c k).getD k 0=u at*;generalize a7:(eL S b a d c k).getD (k+1) 0=u2 at*;have m:w2 (∀W,af wr W->(W.cell? ⟨w.heap.size,0,U⟩=gk (I J g)/\W.cell? ⟨w.heap.size,1,U⟩=gk (I J S)/\W.cell? ⟨w.heap.size,2,U⟩=gk (.slice (gk ⟨i,0,U⟩) (S-1) (S-1))/\W.cell? ⟨w.heap.size,3,U⟩=gk (.slice (gk ⟨bl,0,U⟩) S S))/\W.cell? ⟨w.heap.size+1,k,U⟩=gk (I J (u:Int))/\W.frozen? ⟨w.heap.size+1,k,U⟩=R/\W.cell? ⟨w.heap.size+1,k+1,U⟩=gk (I J (u2:Int))/\W.frozen? ⟨w.heap.size+1,k+1,U⟩=R):=by
    show∀W,_;intro W l;exact⟨ft (j.out.X.below l),(l.cell j.out.O.1).trans B.1,(l.frozen j.out.O.1).trans B.2,(l.cell j.out.O.1).trans C.1,(l.frozen j.out.O.1).trans C.2⟩
   have bf:k<f:=oO;have bt:k+1<f:=oO;clear a4 a5 a7 N B C;go_wp2;clear K;refine bV (S:=af wr) 13 oK oK (ai (w3 _ _)) ?_;simp only[A3,A0,A4,CQ]
   repeat refine kO m.out ?_
   refine kX (λW l=>DH g S b i bl x d W y.out ab.out al.out ((X.out.below j.out.B).below l)) ?_
   repeat refine kO m.out ?_
   refine kX (λW l=>Fz g S b i bl u (aA S b x d) W y.out ac.out (bk y.out _ _)) ?_
   repeat refine kO m.out ?_
   refine cX ?_;intro z O;have P:=aa O;clear O;obtain⟨-,bi,bo,a6,bq⟩:=m.out z P.out;have bs:∀v,(z.setCell ⟨w.heap.size+1,k,U⟩ v).cell? ⟨w.heap.size+1,k+1,U⟩=gk (I J (u2:Int)):=λv=>(At z _ _ _ (λe=>by injection e;omega)).trans a6;go_wp2;exact⟨⟨k+1,by omega,by go_num,by rw[a3.out];exact((j.out.below P.out).set _ _).set _ _⟩,by simp[intOf];omega⟩
  ·obtain rfl:k=n:=oO;go_wp2;go_ret;refine⟨_,rfl,?_,j.out.B⟩;rw[Y.out];exact j.out.O.ints (D.out _).symm oO oM
theorem Qg {w:wR} {base:Nat} {e:Ar} {v:xf} {n:Nat} {l:List Nat} (h:w.ownsRow base e 1 v n ((zl l).map (zz .i64))) (hn:0<n):
 ∃a cap,v= .slice (gk ⟨a,0,U⟩) n cap/\base<=a/\n<=cap/\cap<=HG/\bK w a l:=by
 rcases h.2 with⟨_,b⟩|⟨a,cap,g,rfl,b,f,c,d,_⟩
 ·omega
 ·exact⟨a,cap,rfl,b,c,d,bK.bL h hn⟩
theorem Qn {w:wR} {base:Nat} {e:Ar} {v:xf} {n:Nat} {l:List Nat} (h:w.ownsRow base e 1 v n ((zl l).map (zz .i64))):
 ∃A cap,v= .slice A n cap/\n<=cap/\cap<=HG/\RD w A (zl l):=by
 rcases h.2 with⟨rfl,rfl⟩|⟨d,cap,i,rfl,f,g,b,c,_⟩
 ·have hl:l.length=0:=by have:=h.1;simpa[ao]using this
  have:l=[]:=E1 hl;subst this;exact⟨U,0,rfl,w5 _,by simp[HG],RD.dw _ _⟩
 ·rcases HS n with a|a
  ·subst a;have hl:l.length=0:=by have:=h.1;simpa[ao]using this
   have:l=[]:=E1 hl;subst this;exact⟨_,cap,rfl,b,c,RD.dw _ _⟩
  ·exact⟨_,cap,rfl,b,c,(bK.bL h a).rd⟩
theorem DB (a:List Nat) (n:Nat) (hn:n=a.length) (A:xv Addr) (b:Nat) (w:wR) (f:n<=100000) (d:n<=b) (g:RD w A (zl a)):
 wS w1 116 #[.slice A n b] w λe c=>∃v,e= .returned v/\az c v (zl (eK a))/\af w c:=by
 have e:n=(zl a).length:=by rw[ao];exact hn
 rw[e]at f d⊢;rw[<-Pl];exact Oy _ _ _ _ oO d g
structure oq (w wr:wR) (c:List xf) (a q:Nat) (b d:List Nat):Prop where
 B:af w wr
 X:an wr w.heap.size c
 cK:bK wr a b
 Q:bK wr q d
 hg:w.heap.size<a
 hq:w.heap.size<q
 n:a≠q
theorem oq.below {w wr W:wR} {c:List xf} {a q:Nat} {b d:List Nat} (h:oq w wr c a q b d) (hb:af wr W):oq w W c a q b d:=
 ⟨ae h.B hb,h.X.below hb,h.cK.below hb,h.Q.below hb,h.hg,h.hq,h.n⟩
theorem oq.TV {w wr:wR} {d:List xf} {a q:Nat} {c e:List Nat} (h:oq w wr d a q c e) (b v:Nat):oq w (wr.setCell ⟨a,b,U⟩ (I J (v:Int))) d a q (c.set b v) e:=
 ⟨h.B.setCell (by have:=h.hg;simp;omega) _,h.X.other _ _ (by have:=h.hg;simp;omega),h.cK.set b v,h.Q.other _ _ (Ne.symm h.n),h.hg,h.hq,h.n⟩
theorem oq.TW {w wr:wR} {d:List xf} {b q:Nat} {c e:List Nat} (h:oq w wr d b q c e) (a v:Nat):oq w (wr.setCell ⟨q,a,U⟩ (I J (v:Int))) d b q c (e.set a v):=
 ⟨h.B.setCell (by have:=h.hq;simp;omega) _,h.X.other _ _ (by have:=h.hq;simp;omega),h.cK.other _ _ h.n,h.Q.set a v,h.hg,h.hq,h.n⟩
theorem Ft (g S c k bl:Nat) (a b:List Nat) (A B:xv Addr) (y z:Nat) (w:wR) (ac:VF g S c) (ap:a.length<=8193) (av:b.length<=4097) (a0:1<=b.length) (ad:a.length<=b.length-1)
 (l:RD w A (zl a)):
 wS w1 156 #[gG g S k bl,.slice A a.length y,.slice B b.length z] w λe i=>∃o p,e= .returned (.tuple #[o,p])/\az i o (zl (nu S c a b))/\az i p (zl (fK S c a b))/\af w i:=by
 obtain⟨C,D,O,P,Q⟩:=info_parts cT;have E:=aa (l.alloc (mU g S k bl));have q:w2 (dr a b=0):=by show _=_;unfold dr;omega
 have F:w2 (nu S c a b=[]):=by show _=_;unfold nu;rw[q.out];rfl
 have G:w2 (fK S c a b=eK a):=by show _=_;unfold fK;rw[q.out];rfl
 have H:w2 (a.length=(zl a).length):=(ao a).symm;clear l;obtain⟨f,T⟩:∃f,f=b.length-1:=⟨_,rfl⟩;have a1:((b.length:Int)-1)=(f:Int):=oO;have a2:a.length<=f:=oO;generalize hn:a.length=n at*;generalize K:b.length=m at*;have L:=aa hn;clear hn K T;go_enter func156,ntmps156;go_wp2_with(at_builtin;refine eG rfl _ _ _ rfl (w.heap.size+1) 3 C _ z1 D O P Q rfl (.slice U 0 0) 0 [] rfl (C1 _ _ _ _) A n _ (zl a) rfl H.out E.out oO oS ?_;intro v1 r v hg V;have W:w2 (af w r):=((w3 _ _).alloc (w5 _) _).grown hg oS (λd j=>by cases j);obtain⟨M,c1,rfl,X,a3,s⟩:=Qn (l:=a) (n:=n) (by simpa using v);have Y:=aa s;clear v hg V s)
 go_loopw [9] (λx wr=>∃d:Int,x=I J d/\w2 (d<0)/\w2 (wr=r)) (λ_ _=>0)
 case atStart=>exact⟨_,rfl,by show _<_;omega,rfl⟩
 case round=>
  obtain⟨d,rfl,j,N⟩:=hrel;obtain rfl:=N.out;have a4:=j.out;go_wp2_with(go_at_call 116;refine(DB a n L.out.symm M c1 _ oO X Y.out).mono ?_;rintro e al ⟨am,rfl,t,u⟩;have Z:=aa t;have ab:=aa u;clear t u)
  go_ret2
  refine⟨_,_,rfl,?_,?_,ae W.out ab.out⟩
  ·rw[F.out];exact az.dw _
  ·rw[G.out];exact Z.out
theorem Ed (j S d l bl:Nat) (a b:List Nat) (A B:xv Addr) (ce ch:Nat) (w:wR) (L:VF j S d) (bb:ak S a) (bd:ak S b) (et:a.length<=8193) (ew:b.length<=4097) (C:1<=b.length) (el:b.length<=a.length)
 (be:b.getD (b.length-1) 0≠0) (N:dH w S d l bl) (a0:RD w A (zl a)) (hb:RD w B (zl b)):
 wS w1 156 #[gG j S l bl,.slice A a.length ce,.slice B b.length ch] w λe O=>∃a1 a2,e= .returned (.tuple #[a1,a2])/\az O a1 (zl (nu S d a b))/\az O a2 (zl (fK S d a b))/\af w O:=by
 obtain⟨ci,ck,c2,c3,c4⟩:=info_parts cT;obtain⟨M,H⟩:∃M,M=dr a b:=⟨_,rfl⟩;obtain⟨f,T⟩:∃f,f=b.length-1:=⟨_,rfl⟩;have ed:M=a.length-(b.length-1):=H;have c5:=run_make_row' (P:=w1) 64 3 (I J 0) 8 z1 cT rfl .i64 .i64 M oO oO;have a3:=aa (a0.alloc (mU j S l bl));have a4:=aa hb;have a5:=aa N;have z:=aa L;have bf:=aa bd;have co:w2 (nu S d a b=qL S d a b M M M):=by show _=_;rw[H];rfl
 have cp:w2 (fK S d a b=eK (rL S d a b M M)):=by show _=_;rw[H];rfl
 have c6:w2 (∀k,rL S d a b M (k+1)=fW S d (cL S d a b M k) b (rL S d a b M k) (M-1-k) b.length):=λk=>rfl;have c7:w2 (∀k,cL S d a b M k=aA S d ((rL S d a b M k).getD (M-1-k+f) 0) (bW S d (b.getD f 0))):=λk=>by rw[T];rfl
 have c8:w2 (∀k,qL S d a b M M (k+1)=(qL S d a b M M k).set (M-1-k) (cL S d a b M k)):=λk=>rfl;have bi:w2 (∀k,ak S (rL S d a b M k)):=λk=>zc L bb _ _;have av:w2 (∀k,(rL S d a b M k).length=a.length):=λk=>vi _ _ _ _ _ _;have cb:w2 (∀k,(qL S d a b M M k).length=M):=λk=>BR _ _ _ _ _ _ _;have a6:w2 (a.length=(zl a).length):=(ao a).symm;have c9:w2 (b.getD f 0≠0):=by rw[T];exact be
 have da:((b.length:Int)-1)=(f:Int):=oO;have dd:((a.length:Int)-(f:Int))=(M:Int):=oO;have bo:(f:Int)<(a.length:Int):=oO;have ex:1<=M:=oO;have ey:M<=8193:=oO;have ez:M+f<=a.length:=oO;have de:f<b.length:=oO;have fo:b.length<=f+1:=oO;clear a0 hb N L bb bd be H ed T;generalize hn:a.length=n at*;generalize a7:b.length=m at*;have em:=aa hn;have P:=aa a7;clear hn a7;go_enter func156,ntmps156;go_wp2_with(at_builtin;refine eG rfl _ _ _ rfl (w.heap.size+1) 3 ci _ z1 ck c2 c3 c4 rfl (.slice U 0 0) 0 [] rfl (C1 _ _ _ _) A n _ (zl a) rfl a6.out a3.out oO oS ?_;intro v1 E b7 hg di;have V:w2 (y5 (w.alloc (mU j S l bl)).heap.size (w.alloc (mU j S l bl)) E):=(w3 _ _).grown hg (w5 _) (λv F=>by cases F);obtain⟨t,c1,rfl,eA,dl,e0,b9⟩:=Qg (l:=a) (n:=n) (by simpa using b7) oO;have ca:=aa b9;clear b7 hg di b9)
 clear da dd;have dn:w2 (oq w (E.alloc (.cells (C2 #[zz .i64 0] M) 3)) (ji j S l bl) t E.heap.size a (y0 M 0)):=by
  have bo:=V.out.size;simp at bo;exact⟨ah (dT V.out) _,((an.new _ _ _ _ rfl).below V.out).alloc _,ca.out.below ((w3 _ _).alloc (w5 _) _),bK.made _ _ _ _ rfl,by omega,by omega,Nat.ne_of_lt ca.out.1⟩
 generalize hq:E.heap.size=q at*;clear hq;clear c5 a6 a3;go_loopw [9] (λc wr=>∃(k:Nat) (v:Int),k<=M/\c=I J v/\w2 (v=(M:Int)-1-k)/\w2 (oq w wr (ji j S l bl) t q (rL S d a b M k) (qL S d a b M M k))) (λc _=>(intOf c+1).toNat)
 case atStart=>exact⟨0,_,x1 _,rfl,by show _=_;omega,dn⟩
 case round=>
  obtain⟨k,v,en,rfl,F,o⟩:=hrel;by_cases fr:k<M
  ·obtain⟨c,X⟩:∃c,c=M-1-k:=⟨_,rfl⟩;have e9:c<M:=oO;have fb:c+f<n:=oO;obtain rfl:v=(c:Int):=by have:=F.out;omega
   have Y:=c6.out k;have Z:=c8.out k;have ab:=c7.out k;rw[<-X]at Y Z ab;obtain⟨a8,rfl,-,ds⟩:=a4.out (by rw[ao,P.out];omega);have bq:w2 (∀W,af w W->∀r,r<m->W.cell? (a8.add r)=gk (I J ((b.getD r 0:Nat):Int))):=by
    show∀W,_;intro W g r N;obtain⟨fc,e,_,hc⟩:=a4.out.below g (by rw[ao,P.out];omega);injection e with e;subst e;rw[hc r (by rw[ao,P.out];omega),bT]
   have bs:=o.out.cK.2 (c+f) (by rw[av.out];omega);have ac:=o.out.Q.2 c (by rw[cb.out];omega);have cq:w2 ((rL S d a b M k).getD (c+f) 0<S):=bi.out k _;have dv:w2 (b.getD f 0<S):=bf.out f;have ef:=aa (bi.out k);have eh:=aa (av.out k);generalize dx:rL S d a b M k=p at*;generalize dy:qL S d a b M M k=cr at*;generalize dz:cL S d a b M k=i at*;generalize ad:p.getD (c+f) 0=u at*;generalize al:b.getD f 0=a9 at*;generalize dE:cr.getD c 0=cs at*;have Q:w2 (∀W,af wr W->((W.cell? ⟨w.heap.size,0,U⟩=gk (I J j)/\W.cell? ⟨w.heap.size,1,U⟩=gk (I J S)/\W.cell? ⟨w.heap.size,2,U⟩=gk (.slice (gk ⟨l,0,U⟩) (S-1) (S-1))/\W.cell? ⟨w.heap.size,3,U⟩=gk (.slice (gk ⟨bl,0,U⟩) S S))/\W.cell? ⟨t,c+f,U⟩=gk (I J (u:Int))/\W.cell? (a8.add f)=gk (I J (a9:Int)))/\W.cell? ⟨q,c,U⟩=gk (I J (cs:Int))/\W.frozen? ⟨q,c,U⟩=R):=by
    show∀W,_;intro W g;refine⟨⟨ft (o.out.X.below g),(g.cell o.out.cK.1).trans bs.1,?_⟩,(g.cell o.out.Q.1).trans ac.1,(g.frozen o.out.Q.1).trans ac.2⟩;rw[bq.out W (ae o.out.B g) f de,al]
   have d0:=aa Y;have d1:=aa Z;have bt:=aa ab;have fd:=aa al;have d2:=aa X;clear Y Z ab ds bs ac dx dy dz ad al dE X;have bv:(0:Int)<=(c:Int)+f:=oO;have bx:(c:Int)+f<(n:Int):=oO;have bz:((c:Int)+f).toNat=c+f:=oO;have am:J.wrap ((c:Int)+f)=(c:Int)+f:=aG _ oO oO;go_wp2;refine bV (S:=af wr) 12 oK oK (ai (w3 _ _)) ?_;simp only[A3,A0,A4,CQ]
   repeat refine kO Q.out ?_
   refine kX (λW g=>OD j S d l bl u a9 W z.out cq.out dv.out c9.out ((a5.out.below o.out.B).below g)) ?_
   repeat refine kO Q.out ?_
   refine cX ?_;intro G C;have D:=aa C;clear C;clear am bz bv bx;rw[<-bt.out];have d3:w2 (i<S):=by rw[bt.out];exact bk z.out _ _
   obtain⟨-,b1,b2⟩:=Q.out G D.out;have d4:w2 (oq w (G.setCell ⟨q,c,U⟩ (I J (i:Int))) (ji j S l bl) t q p (qL S d a b M M (k+1))):=by
    rw[d1.out];exact(o.out.below D.out).TW c i
   have d5:w2 (∀x,fW S d i b p c (x+1)=(fW S d i b p c x).set (c+x) (bD S d ((fW S d i b p c x).getD (c+x) 0) (aA S d i (b.getD x 0)))):=λx=>rfl;have d6:w2 (∀x,ak S (fW S d i b p c x)):=λx=>vR z.out ef.out c x;have d7:w2 (∀x,(fW S d i b p c x).length=n):=λx=>(pJ _ _ _ _ _ _ _).trans eh.out;go_wp2;clear b1 b2;generalize G.setCell ⟨q,c,U⟩ (I J (i:Int))=eq at*;go_loopw [52] (λr wr=>∃x:Nat,x<=m/\r=I J x/\w2 (oq w wr (ji j S l bl) t q (fW S d i b p c x) (qL S d a b M M (k+1)))) (λr _=>m-(intOf r).toNat)
   case atStart=>exact⟨0,x1 _,rfl,d4⟩
   case round=>
    obtain⟨x,er,rfl,s⟩:=hrel;by_cases ek:x<m
    ·have cv:=bq.out _ s.out.B x ek;have cx:w2 (b.getD x 0<S):=bf.out x;have b3:=d5.out x;have d8:w2 ((fW S d i b p c x).getD (c+x) 0<S):=d6.out x _;have ap:=s.out.cK.2 (c+x) (by rw[d7.out];omega);generalize d9:b.getD x 0=y at*;generalize ad:(fW S d i b p c x).getD (c+x) 0=u2 at*;have ea:=aa b3;have K:w2 (∀W,af wr W->(W.cell? ⟨w.heap.size,0,U⟩=gk (I J j)/\W.cell? ⟨w.heap.size,1,U⟩=gk (I J S)/\W.cell? ⟨w.heap.size,2,U⟩=gk (.slice (gk ⟨l,0,U⟩) (S-1) (S-1))/\W.cell? ⟨w.heap.size,3,U⟩=gk (.slice (gk ⟨bl,0,U⟩) S S))/\W.cell? ⟨t,c+x,U⟩=gk (I J (u2:Int))/\W.frozen? ⟨t,c+x,U⟩=R):=by
      show∀W,_;intro W g;exact⟨ft (s.out.X.below g),(g.cell s.out.cK.1).trans ap.1,(g.frozen s.out.cK.1).trans ap.2⟩
     clear d9 ad ap b3;have bv:(0:Int)<=(c:Int)+x:=oO;have bx:(c:Int)+x<(n:Int):=oO;have bz:((c:Int)+x).toNat=c+x:=oO;have am:J.wrap ((c:Int)+x)=(c:Int)+x:=aG _ oO oO;go_wp2;clear cv;refine bV (S:=af wr) 17 oK oK (ai (w3 _ _)) ?_;simp only[A3,A0,A4,CQ]
     repeat refine kO K.out ?_
     refine kX (λW g=>DH j S d l bl i y W z.out d3.out cx.out ((a5.out.below s.out.B).below g)) ?_
     repeat refine kO K.out ?_
     refine kX (λW g=>Fz j S d l bl u2 (aA S d i y) W z.out d8.out (bk z.out _ _)) ?_
     repeat refine kO K.out ?_
     refine cX ?_;intro cy C;have b4:=aa C;clear C;obtain⟨-,b1,b2⟩:=K.out cy b4.out;go_wp2;clear am;exact⟨⟨x+1,by omega,by go_num,by rw[ea.out];exact(s.out.below b4.out).TV _ _⟩,by simp[intOf];omega⟩
    ·obtain rfl:x=m:=oO;go_wp2;exact⟨⟨k+1,_,by omega,rfl,by have:=d2.out;show _=_;omega,by rw[d0.out];exact s⟩,by simp[intOf]⟩
  ·obtain rfl:k=M:=oO;have fn:v<0:=by have:=F.out;omega
   go_wp2_with(go_at_call 116;refine(DB (rL S d a b k k) n (av.out k).symm _ _ _ oO dl o.out.cK.rd).mono ?_;rintro e G ⟨es,rfl,b5,b6⟩;have ec:=aa b5;have D:=aa b6;clear b5 b6)
   go_ret2
   refine⟨_,_,rfl,?_,?_,ae o.out.B D.out⟩
   ·rw[co.out];exact(o.out.Q.ints (cb.out _).symm (w5 _) oM).below D.out
   ·rw[cp.out];exact ec.out
end
end Go.Proofs.YtmnlkganmgcpbaaGreatDoor
