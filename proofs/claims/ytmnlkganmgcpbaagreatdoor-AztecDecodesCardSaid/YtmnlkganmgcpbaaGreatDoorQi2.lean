import Derived.Shelf.Small.Bits
import Derived.Shelf.Strings.Prefix
import Derived.Shelf.Strings.Explode
import Derived.Test.YtmnlkganmgcpbaaGreatDoorProg
import Derived.WalkSpells
import Derived.BigQuiet
import Derived.OwnWalk
import Derived.Laws.OwnMore
import Derived.Deep.AppendLies
import Derived.Maps.AppendAt
import Derived.Test.YtmnlkganmgcpbaaGreatDoorRows
import Derived.StillTail
import Derived.Test.YtmnlkganmgcpbaaGreatDoorQi1
set_option maxRecDepth 100000
set_option maxHeartbeats 4000000
set_option linter.unusedVariables false
set_option linter.unusedSectionVars false
set_option linter.unusedSimpArgs false
set_option linter.defProp false
open Go.Value renaming int->I
open Go.IntKind renaming i64->J
open Bool renaming false->R,true->wP,false_eq_true->Ax,and_eq_true->Az
open Option renaming none->U,some->gk
open Go renaming World->wR,Calls->wS,Value->xf,wpList->y7,TypeId->Ar,execOp->Bq,yielded->RM,Program->TQ,undef->UR,ready_mono->Vz,getD_replicate_false->VA,wp_region_any->Wk,getD_both->W2
open Go.Proofs.Tryz renaming prog->w1,underlying9->Ul,underlying3->Uu,underlying5->UO,underlying4->U7,zeroValue9->VV,zeroValue4->VW,zeroValue3->VX,underlying138->V0,zeroValue138->Wc,zeroValue5->Wr,sizeOf9->Wv,sizeOf4->Ww,sizeOf3->Wx,underlying244->WE,sizeOf138->WH,zeroValue244->WM,isAgg9->WN,isAgg4->WO,isAgg3->WQ,isAgg138->WZ,sizeOf5->W8
open Nat renaming le_refl->w5,lt_of_lt_of_le->x6,lt_or_ge->z6,add_assoc->Us,add_comm->Vi
open Go.RowKit renaming Below->y5
open _root_ renaming congrArg->z7,Array->z8,absurd->A8,decide_eq_true_eq->HJ
open Go.Region renaming wanted->A6,ready->HQ,noSelect->UL,Mode->U5,noSelect_spec->Vf,binds->Vg,lexHead->Vn,free_spec->VJ,chainB->VR
open List renaming length_cons->Co,eq_nil_of_length_eq_zero->E1,getElem?_drop->V3
open Option.some renaming inj->HV
open Go.Builtin renaming append_->Ut,firstCells->V6,lenOf->W1
open Array renaming replicate->Uz,setIfInBounds_comm->VU,getElem?_eq_getElem->WL
open Go.Shelf renaming Ren->WC
namespace Go.Proofs
section
open Go.Shelf
def Tryz.GN:WC:=⟨λ|128=>229|n=>n,λ|51=>244|3=>3|4=>4|46=>138|5=>5|9=>9|n=>n,λ|n=>n⟩
theorem Tryz.QH:Go.Proofs.Lays.n128 w1 Tryz.GN:={
 mixed:=by kernel_rfl
 f128:=Tryz.func229.trans (z7 gk (by kernel_rfl))
 t3:=Uu
 a3:=WQ
 z3:=Wx
 v3:=VX
 t4:=U7
 a4:=WO
 z4:=Ww
 v4:=VW
 t5:=UO
 a5:=Tryz.isAgg5
 z5:=W8
 v5:=Wr
 t9:=Ul
 a9:=WN
 z9:=Wv
 v9:=VV
 t46:=V0
 a46:=WZ
 z46:=WH
 v46:=Wc
 t51:=WE
 a51:=Tryz.isAgg244
 z51:=Tryz.sizeOf244
 v51:=WM}
theorem Tryz.bits_Len32 (x:Int) (w:wR) (a:0<=x) (b:x<=4294967295):
 wS w1 229 #[.int .u32 x] w λe c=>e= .returned (I J (Lib.bitLen x.toNat))/\c=w:=Any.bits_Len32 Tryz.QH x w a b
def Tryz.G1:WC:=⟨λ|125=>219|128=>229|129=>230|n=>n,λ|46=>138|3=>3|51=>244|53=>246|4=>4|5=>5|9=>9|n=>n,λ|n=>n⟩
theorem Tryz.Rd:Go.Proofs.Lays.n125 w1 Tryz.G1:={
 mixed:=by kernel_rfl
 f125:=Tryz.func219.trans (z7 gk (by kernel_rfl))
 f128:=Tryz.func229.trans (z7 gk (by kernel_rfl))
 f129:=Tryz.func230.trans (z7 gk (by kernel_rfl))
 t3:=Uu
 a3:=WQ
 z3:=Wx
 v3:=VX
 t4:=U7
 a4:=WO
 z4:=Ww
 v4:=VW
 t5:=UO
 a5:=Tryz.isAgg5
 z5:=W8
 v5:=Wr
 t9:=Ul
 a9:=WN
 z9:=Wv
 v9:=VV
 t46:=V0
 a46:=WZ
 z46:=WH
 v46:=Wc
 t51:=WE
 a51:=Tryz.isAgg244
 z51:=Tryz.sizeOf244
 v51:=WM
 t53:=Tryz.underlying246
 a53:=Tryz.isAgg246
 z53:=Tryz.sizeOf246
 v53:=Tryz.zeroValue246}
theorem Tryz.bits_Len (x:Int) (w:wR) (a:0<=x) (b:x<=18446744073709551615):
 wS w1 219 #[.int .u64 x] w λe c=>e= .returned (I J (Lib.bitLen x.toNat))/\c=w:=Any.bits_Len Tryz.Rd x w a b
def Tryz.GC:WC:=⟨λ|129=>230|n=>n,λ|53=>246|3=>3|4=>4|46=>138|5=>5|9=>9|n=>n,λ|n=>n⟩
theorem Tryz.QR:Go.Proofs.Lays.n129 w1 Tryz.GC:={
 mixed:=by kernel_rfl
 f129:=Tryz.func230.trans (z7 gk (by kernel_rfl))
 t3:=Uu
 a3:=WQ
 z3:=Wx
 v3:=VX
 t4:=U7
 a4:=WO
 z4:=Ww
 v4:=VW
 t5:=UO
 a5:=Tryz.isAgg5
 z5:=W8
 v5:=Wr
 t9:=Ul
 a9:=WN
 z9:=Wv
 v9:=VV
 t46:=V0
 a46:=WZ
 z46:=WH
 v46:=Wc
 t53:=Tryz.underlying246
 a53:=Tryz.isAgg246
 z53:=Tryz.sizeOf246
 v53:=Tryz.zeroValue246}
theorem Tryz.bits_Len64 (x:Int) (w:wR) (a:0<=x) (b:x<=18446744073709551615):
 wS w1 230 #[.int .u64 x] w λe c=>e= .returned (I J (Lib.bitLen x.toNat))/\c=w:=Any.bits_Len64 Tryz.QR x w a b
def Tryz.JM:WC:=⟨λ|99=>215|206=>227|n=>n,λ|9=>9|4=>4|3=>3|n=>n,λ|n=>n⟩
theorem Tryz.Se:Go.Proofs.Lays.n99 w1 Tryz.JM:={
 mixed:=by kernel_rfl
 f99:=Tryz.func215.trans (z7 gk (by kernel_rfl))
 f206:=Tryz.func227.trans (z7 gk (by kernel_rfl))
 t3:=Uu
 a3:=WQ
 z3:=Wx
 v3:=VX
 t4:=U7
 a4:=WO
 z4:=Ww
 v4:=VW
 t9:=Ul
 a9:=WN
 z9:=Wv
 v9:=VV}
open Go.RowKit Go.Lib in
theorem Tryz.strings_HasPrefix (s p:ByteArray) (w:wR):
 wS w1 215 #[.string s,.string p] w λe w'=>e= .returned (.bool (Lib.hasPrefix s.data.toList p.data.toList))/\w'=w:=Any.strings_HasPrefix Tryz.Se s p w
def Tryz.GB:WC:=⟨λ|146=>178|221=>214|268=>224|138=>225|143=>226|195=>231|197=>232|218=>233|219=>234|260=>235|217=>236|225=>237|224=>238|267=>239|266=>240|314=>241|n=>n,λ|9=>9|31=>214|3=>3|4=>4|0=>0|105=>248|21=>21|5=>5|46=>138|119=>251|139=>254|138=>253|146=>255|51=>244|n=>n,λ|1=>0|3=>1|4=>2|n=>n⟩
theorem Tryz.QO:Go.Proofs.Lays.n146 w1 Tryz.GB:={
 mixed:=by kernel_rfl
 f138:=Tryz.func225.trans (z7 gk (by kernel_rfl))
 f143:=Tryz.func226.trans (z7 gk (by kernel_rfl))
 f146:=Tryz.func178.trans (z7 gk (by kernel_rfl))
 f195:=Tryz.func231.trans (z7 gk (by kernel_rfl))
 f197:=Tryz.func232.trans (z7 gk (by kernel_rfl))
 f217:=Tryz.func236.trans (z7 gk (by kernel_rfl))
 f218:=Tryz.func233.trans (z7 gk (by kernel_rfl))
 f219:=Tryz.func234.trans (z7 gk (by kernel_rfl))
 f221:=Tryz.func214.trans (z7 gk (by kernel_rfl))
 f224:=Tryz.func238.trans (z7 gk (by kernel_rfl))
 f225:=Tryz.func237.trans (z7 gk (by kernel_rfl))
 f260:=Tryz.func235.trans (z7 gk (by kernel_rfl))
 f266:=Tryz.func240.trans (z7 gk (by kernel_rfl))
 f267:=Tryz.func239.trans (z7 gk (by kernel_rfl))
 f268:=Tryz.func224.trans (z7 gk (by kernel_rfl))
 f314:=Tryz.func241.trans (z7 gk (by kernel_rfl))
 t0:=Tryz.underlying0
 a0:=Tryz.isAgg0
 z0:=Tryz.sizeOf0
 v0:=Tryz.zeroValue0
 t3:=Uu
 a3:=WQ
 z3:=Wx
 v3:=VX
 t4:=U7
 a4:=WO
 z4:=Ww
 v4:=VW
 t5:=UO
 a5:=Tryz.isAgg5
 z5:=W8
 v5:=Wr
 t9:=Ul
 a9:=WN
 z9:=Wv
 v9:=VV
 t21:=Tryz.underlying21
 a21:=Tryz.isAgg21
 z21:=Tryz.sizeOf21
 v21:=Tryz.zeroValue21
 t31:=Tryz.underlying214
 a31:=Tryz.isAgg214
 z31:=Tryz.sizeOf214
 v31:=Tryz.zeroValue214
 t46:=V0
 a46:=WZ
 z46:=WH
 v46:=Wc
 t51:=WE
 a51:=Tryz.isAgg244
 z51:=Tryz.sizeOf244
 v51:=WM
 t105:=Tryz.underlying248
 a105:=Tryz.isAgg248
 z105:=Tryz.sizeOf248
 v105:=Tryz.zeroValue248
 t119:=Tryz.underlying251
 a119:=Tryz.isAgg251
 z119:=Tryz.sizeOf251
 t138:=Tryz.underlying253
 a138:=Tryz.isAgg253
 z138:=Tryz.sizeOf253
 v138:=Tryz.zeroValue253
 t139:=Tryz.underlying254
 a139:=Tryz.isAgg254
 z139:=Tryz.sizeOf254
 v139:=Tryz.zeroValue254
 t146:=Tryz.underlying255
 a146:=Tryz.isAgg255
 z146:=Tryz.sizeOf255
 v146:=Tryz.zeroValue255
 g1:=by kernel_rfl
 g3:=by kernel_rfl
 g4:=by kernel_rfl}
open Go.RowKit Go.Lib in
theorem Tryz.strings_Split_chars (s sep:ByteArray) (w:wR) (h0:sep.size=0) (hs:s.size<4294967281) (hascii:∀(j:Nat) b,s.data.toList[j]?=gk b->b.toNat<128):
 wS w1 178 #[.string s,.string sep] w λe w'=>
  e= .returned (.slice (gk ⟨(w.iter s s.size).heap.size,0,U⟩) s.size s.size)/\w'=(w.iter s s.size).alloc (.cells ((Lib.charsB s).map Value.string).toArray 9):=Any.strings_Split_chars Tryz.QO (by kernel_rfl) s sep w h0 hs hascii
end
end Go.Proofs
namespace Go.Proofs.YtmnlkganmgcpbaaGreatDoor
section
open Go.RowKit
theorem aG (z:Int) (a:-1000000000000<=z) (b:z<=1000000000000):J.wrap z=z:=by
 rw[IntKind.wrap_i64];omega
abbrev af (w:wR):wR->Prop:=y5 w.heap.size w
theorem aa {a:Prop} (h:a):Go.RowKit.Hid a:=h
abbrev au (v:xf) (V:wR):Ending->wR->Prop:=λe a=>e= .returned v/\y5 V.heap.size V a
theorem ae {w W a:wR} (h:y5 w.heap.size w W) (hb:y5 W.heap.size W a):y5 w.heap.size w a:=h.trans (hb.mono h.size)
theorem ah {w W:wR} (h:y5 w.heap.size w W) (a:Obj):y5 w.heap.size w (W.alloc a):=h.alloc h.size a
theorem ai {w W:wR} (h:y5 w.heap.size w W):y5 w.heap.size w W.drew:=h.drew
theorem ax (W:wR) (a:Obj):y5 W.heap.size W (W.alloc a):=(Below.refl _ _).alloc (w5 _) _
theorem dT {w b:wR} {a:Obj} (hb:y5 (w.alloc a).heap.size (w.alloc a) b):y5 w.heap.size w b:=((Below.refl _ _).alloc (w5 _) _).trans (hb.mono oS)
theorem aD (a:Addr) (n:Nat):(a.add n).block=a.block:=by unfold Addr.add;split<;>rfl
theorem Jg (a:Addr) (b c:Nat):(a.add b).add c=a.add (b+c):=by
 unfold Addr.add;by_cases e:b=0<;>by_cases g:c=0<;>simp[e,g,Us]
theorem add_plain (b a c:Nat):(⟨b,a,U⟩:Addr).add c=⟨b,a+c,U⟩:=by unfold Addr.add;split<;>simp_all
def an (W:wR) (b:Nat) (c:List xf):Prop:=b<W.heap.size/\∀a,a<c.length->W.cell? ⟨b,a,U⟩=gk (c.getD a UR)
theorem an.below {W a:wR} {b:Nat} {c:List xf} (h:an W b c) (hb:y5 W.heap.size W a):an a b c:=
 ⟨x6 h.1 hb.size,λe g=>(hb.cell h.1).trans (h.2 e g)⟩
theorem an.alloc {W:wR} {b:Nat} {c:List xf} (h:an W b c) (a:Obj):an (W.alloc a) b c:=
 h.below ((Below.refl _ _).alloc (w5 _) a)
theorem an.drew {W:wR} {b:Nat} {a:List xf} (h:an W b a):an W.drew b a:=h
theorem an.new (W:wR) (a:z8 xf) (e:Ar) (b:Nat) (hb:b=W.heap.size):an (W.alloc (.cells a e)) b a.toList:=by
 refine⟨by simp;omega,λg c=>?_⟩;rw[World.cell?_alloc_at _ _ _ _ hb];simp at c;simp[WL c]
theorem an.other {W:wR} {b:Nat} {a:List xf} (h:an W b a) (c:Addr) (u:xf) (i:b≠c.block):an (W.setCell c u) b a:=by
 refine⟨by simpa using h.1,λg j=>?_⟩;rw[World.cell?_setCell_other W _ _ _ (λe=>i (by rw[e]))];exact h.2 g j
theorem ay {w:wR} {a:Nat} {b:Obj} (h:w.heap[a]?=gk b):a<w.heap.size:=(Array.getElem?_eq_some_iff.1 h).1
section
variable {α : Type} (f : α → xf) (d : α)
def RG (w:wR) (A:Option Addr) (b:List α):Prop:=
 0<b.length->∃c,A=gk c/\c.block<w.heap.size/\∀a,a<b.length->w.cell? (c.add a)=gk (f (b.getD a d))
def SG (w:wR) (v:xf) (a:List α):Prop:=∃A c,v= .slice A a.length c/\a.length<=c/\c<=maxLen/\RG f d w A a
structure SR (w:wR) (A:Option Addr) (n c:Nat) (xs:List α):Prop where
 hn:n=xs.length
 hc:n<=c
 hm:c<=maxLen
 rd:RG f d w A xs
variable {f d}
theorem RG.below {W a:wR} {A:Option Addr} {b:List α} (h:RG f d W A b) (hb:y5 W.heap.size W a):RG f d a A b:=λhn=>by
 obtain⟨g,e,hl,hc⟩:=h hn;exact⟨g,e,x6 hl hb.size,λc i=>(hb.cell (by rw[aD];exact hl)).trans (hc c i)⟩
theorem RG.alloc {W:wR} {A:Option Addr} {a:List α} (h:RG f d W A a) (b:Obj):RG f d (W.alloc b) A a:=h.below (ax _ _)
theorem RG.dw (W:wR) (A:Option Addr):RG f d W A []:=λh=>A8 h oS
theorem RG.bL {W:wR} {base:Nat} {e:Ar} {n:Nat} {A:Option Addr} {c:Nat} {a:List α} (h:W.ownsRow base e 1 (.slice A n c) n (a.map f)):RG f d W A a:=λhn=>by
 have hl:a.length=n:=by have:=h.1;simpa using this
 obtain⟨b,cap,i,_,l⟩:=h.form oO;have j:A=gk ⟨b,0,U⟩:=by injection i
 subst j;refine⟨_,rfl,l,λg k=>h.cells (g:=b) rfl g _ ?_⟩;simp[List.getD,k]
theorem SG.below {W a:wR} {v:xf} {b:List α} (h:SG f d W v b) (hb:y5 W.heap.size W a):SG f d a v b:=by
 obtain⟨A,c,rfl,e,g,i⟩:=h;exact⟨A,c,rfl,e,g,i.below hb⟩
theorem SG.dw (w:wR):SG f d w (.slice U 0 0) []:=⟨U,0,rfl,by simp,by simp,RG.dw _ _⟩
theorem SG.bL {W:wR} {base:Nat} {e:Ar} {n:Nat} {v:xf} {a:List α} (h:W.ownsRow base e 1 v n (a.map f)):SG f d W v a:=by
 have hl:a.length=n:=by have:=h.1;simpa using this
 rcases h.2 with⟨rfl,rfl⟩|⟨b,cap,c,rfl,_,_,g,rz,_⟩
 ·have:a=[]:=E1 hl;subst this;exact SG.dw _
 ·refine⟨_,cap,by rw[hl],by omega,rz,RG.bL h⟩
theorem SG.parts {w:wR} {v:xf} {a:List α} (h:SG f d w v a):∃A n c,v= .slice A n c/\SR f d w A n c a:=by
 obtain⟨A,c,rfl,b,e,g⟩:=h;exact⟨A,_,c,rfl,rfl,b,e,g⟩
theorem SR.sg {w:wR} {A:Option Addr} {n c:Nat} {a:List α} (h:SR f d w A n c a):SG f d w (.slice A n c) a:=by
 obtain⟨rfl,b,e,g⟩:=h;exact⟨A,c,rfl,b,e,g⟩
theorem SR.below {W a:wR} {A:Option Addr} {n c:Nat} {b:List α} (h:SR f d W A n c b) (hb:y5 W.heap.size W a):SR f d a A n c b:=⟨h.hn,h.hc,h.hm,h.rd.below hb⟩
theorem RG.one (W:wR) (x:α) (a:Ar) (b:Nat) (hb:b=W.heap.size):RG f d (W.alloc (.cells #[f x] a)) (gk ⟨b,0,U⟩) [x]:=λ_=>by
 refine⟨_,rfl,by simp;omega,λc e=>?_⟩;obtain rfl:c=0:=by simp at e;omega
 have:=(an.new W #[f x] a b hb).2 0 oS;rw[add_plain];exact this
theorem SR.lit (W:wR) (a:List α) (c:Ar) (b n:Nat) (hb:b=W.heap.size) (hn:n=a.length) (i:n<=maxLen):SR f d (W.alloc (.cells (a.map f).toArray c)) (gk ⟨b,0,U⟩) n n a:=by
 refine⟨hn,w5 _,i,λ_=>⟨_,rfl,by simp;omega,λg e=>?_⟩⟩;have:=(an.new W (a.map f).toArray c b hb).2 g (by simpa using e);rw[add_plain,Nat.zero_add,this];simp[List.getD,e]
structure OG (f:α->xf) (e:Ar) (w wr:wR) (v:xf) (a:List α):Prop where
 B:af w wr
 O:wr.ownsRow w.heap.size e 1 v a.length (a.map f)
theorem aq {W b:wR} {base:Nat} {e:Ar} {sz:Nat} {v:xf} {n:Nat} {c:List xf} (h:W.ownsRow base e sz v n c) (hb:y5 W.heap.size W b):b.ownsRow base e sz v n c:=by
 refine⟨h.1,?_⟩;rcases h.2 with a|⟨i,cap,l,j,a,g,k⟩
 ·exact .inl a
 ·exact .inr ⟨i,cap,l,j,a,(hb.block _ (ay g)).trans g,k⟩
theorem eR {W:wR} {base:Nat} {e:Ar} {sz:Nat} {v:xf} {n:Nat} {a:List xf} (h:W.ownsRow base e sz v n a) (b:Obj):(W.alloc b).ownsRow base e sz v n a:=aq h (ax _ _)
theorem OG.below {e:Ar} {w wr W:wR} {v:xf} {a:List α} (h:OG f e w wr v a) (hb:y5 wr.heap.size wr W):OG f e w W v a:=⟨ae h.B hb,aq h.O hb⟩
theorem OG.start (e:Ar) (w:wR):OG f e w w (.slice U 0 0) []:=⟨Below.refl _ _,World.ownsRow_nil _ _ _ _⟩
theorem OG.grow {e:Ar} {w wr W b:wR} {v v1:xf} {a c:List α} (h:OG f e w wr v a) (g:y5 wr.heap.size wr W) (j:b.ownsRow w.heap.size e 1 v1 (a.length+c.length) ((a++c).map f)) (hg:W.grownBy b v.ownBlock):OG f e w b v1 (a++c):=by
 refine⟨(ae h.B g).grown hg (by have:=(ae h.B g).size;exact this) (λk i=>(h.O.lt k i).1),?_⟩;rw[List.length_append];exact j
theorem OG.sg {e:Ar} {w wr:wR} {v:xf} {a:List α} (h:OG f e w wr v a):SG f d wr v a:=SG.bL h.O
end
section
variable {P : TQ} {α : Type} {f : α → xf} {d : α}
theorem AD (w:wR) (base:Nat) (a j e:Ar) (b:TypeInfo) (g:P.underlying a=gk (.slice e)) (i:P.info? e=gk b)
 (v:xf) (n sz:Nat) (k:List xf) (p:b.size=sz) (m:w.ownsRow base e sz v n k) (c:Nat):(Ut #[a,a] j #[v,.slice U 0 c]).run P w= .ok v w:=by
 rcases m.2 with⟨rfl,rfl⟩|⟨o,cap,q,rfl,_,_,l,_⟩
 ·simp[Ut,run_underlying g,sizeOf,typeInfo,i,W1,V6]
 ·simp[Ut,run_underlying g,sizeOf,typeInfo,i,W1,V6,l,storeCells]
theorem FC (H:∀x,(f x).oneCell'=wP) (w:wR) (base:Nat) (i o e:Ar) (b:TypeInfo) (z:xf) (r:Nat) (t:P.underlying i=gk (.slice e)) (B:P.info? e=gk b) (K:b.zero=gk z)
 (G:b.size=1) (Q:b.bytes=r) (S:z.cells.size=1)
 (v:xf) (n:Nat) (C:List α) (s:w.ownsRow base e 1 v n (C.map f))
 (A:Option Addr) (m c:Nat) (a:List α) (L:m=a.length) (D:RG f d w A a)
 (T:n+m<=maxLen) (V:(n+m)* r<=140737488355328) (X:base<=w.heap.size):
 ∃l j,(Ut #[i,i] o #[v,.slice A m c]).run P w= .ok l j/\j.ownsRow base e 1 l (n+m) ((C++a).map f)/\w.grownBy j v.ownBlock:=by
 subst L;rcases A with _|p
 ·have M:a.length=0:=by
   rcases Nat.eq_zero_or_pos a.length with E|E
   ·exact E
   ·obtain⟨p,q,_⟩:=D oO;cases q
  have N:a=[]:=E1 M;subst N;exact⟨v,w,AD w base i o e b t B v n 1 _ G s c,by simpa using s,World.grownBy.refl w _⟩
 ·have Y:∀g u,(a.map f)[g]?=gk u->w.cell? (p.add g)=gk u:=by
   intro g u k;have F:g<a.length:=by
    rcases z6 g a.length with h|h
    ·exact h
    ·rw[List.getElem?_eq_none (by simpa using h)]at k;cases k
   obtain⟨Z,h,_,hc⟩:=D oO;injection h with h;subst h;rw[hc g F];simpa[List.getD,F]using k
  obtain⟨l,j,W,q,O,_,_⟩:=run_append_own_at (P:=P) w base i o e b z 1 r t B K G Q S oO v n _ s p a.length c (a.map f) oS Y
   (λu k=>by obtain⟨y,_,rfl⟩:=List.mem_map.1 k;exact H y) T V X
  exact⟨l,j,W,by rw[List.map_append];exact q,O⟩
theorem aY (t:∀x,(f x).oneCell'=wP) {w:wR} {q:z8 Oper} {r:List Oper} {b:Oper} {a:Act} {Q:Exit->Act->wR->Prop} (M:b.guard=U) (s x:Operand) (j:Ar)
 (u:b.op= .call {callee:= .builtin .append,args:=#[s,x],argTypes:=#[j,j]})
 (base:Nat) (e:Ar) (g:TypeInfo) (z:xf) (p:Nat) (y:P.underlying j=gk (.slice e)) (B:P.info? e=gk g) (C:g.zero=gk z)
 (X:g.size=1) (N:g.bytes=p) (O:z.cells.size=1)
 (v:xf) (n:Nat) (o:List α) (hs:a.eval s=v) (V:w.ownsRow base e 1 v n (o.map f))
 (A:Option Addr) (m c:Nat) (k:List α) (D:a.eval x= .slice A m c) (E:m=k.length) (F:RG f d w A k)
 (S:n+m<=maxLen) (T:(n+m)* p<=140737488355328) (Y:base<=w.heap.size)
 (h:∀l i,i.ownsRow base e 1 l (n+m) ((o++k).map f)->w.grownBy i v.ownBlock->y7 P q Q r (a.put b.dst l) i):
 y7 P q Q (b::r) a w:=by
 refine wpList_plain M λK G=>?_;obtain⟨l,i,W,H,L⟩:=FC (P:=P) (d:=d) t w base j b.type e g z p y B C X N O v n o V A m c k E F S T Y;unfold Oper.wp Bq;simp only[u,resolve,invoke,builtin,Sem.run_bind,Sem.run_pure,Result.andThen_ok,List.map_toArray,List.map_cons,List.map_nil,hs,D,W];exact G _ _ (h l i H L)
end
abbrev vB:Bool->xf:=Value.bool
abbrev vI:Int->xf:=Value.int .i64
abbrev vU:UInt8->xf:=λx=>Value.int .u8 (x.toNat:Int)
theorem tu (x:Bool):(vB x).oneCell'=wP:=rfl
theorem OF (x:Int):(vI x).oneCell'=wP:=rfl
theorem TN (x:UInt8):(vU x).oneCell'=wP:=rfl
theorem DZ (x:ByteArray):(Value.string x).oneCell'=wP:=rfl
theorem fF:(Tryz.prog.info? 4).map (λa=>(a.zero,a.size,a.bytes))=gk (gk (.bool R),1,1):=oK
theorem cT:(Tryz.prog.info? 3).map (λa=>(a.zero,a.size,a.bytes))=gk (gk (I J 0),1,8):=oK
theorem Re:(Tryz.prog.info? 9).map (λa=>(a.zero,a.size,a.bytes))=gk (gk (.string ByteArray.empty),1,16):=oK
section
variable {P : TQ} {ops : z8 Oper} {md : U5} {S : wR → Prop}
def MY (P:TQ) (S:wR->Prop) (v:xf):Result Next->Prop
 |.ok (.value u) b=>u=v/\S b
 |.ok .skip b=>v=UR/\S b
 |.ok (.enter f args) b=>wS P f args b (λe c=>e= .returned v/\S c)
 |_=>False
def jE (P:TQ) (ops:z8 Oper) (S:wR->Prop) (o:Oper) (v:xf) (a:Act):Prop:=
 (A6 o (RM ops a.tmps)=wP/\∀w,S w->MY P S v ((Bq a.eval o).run P w))\/(A6 o (RM ops a.tmps)=R/\v=UR)
theorem jE.of_same {o:Oper} {v:xf} {a a':Act} (b:jE P ops S o v a) (c:Bq a'.eval o=Bq a.eval o)
 (d:A6 o (RM ops a'.tmps)=A6 o (RM ops a.tmps)):jE P ops S o v a':=by
 unfold jE at*;rw[c,d];exact b
def rp (P:TQ) (ops:z8 Oper) (S:wR->Prop) (b:Nat) (K:Act->Prop) (a:Act):Prop:=
 ∀o,ops[b]?=gk o->∃v,jE P ops S o v a/\K (a.put o.dst v)
theorem zk {b:Nat} {a:Act} {K c:Act->Prop} (h:∀a,K a->c a) (d:rp P ops S b K a):rp P ops S b c a:=λo e=>by
 obtain⟨v,f,g⟩:=d o e;exact⟨v,f,h _ g⟩
theorem B8 {e:Nat} {c d:Oper} {v:xf} (k:ops[e]?=gk d) (q:c.apart ops d=wP)
 (s:∀f b,c.op≠ .select f b) (t:∀f b,d.op≠ .select f b) {K:Act->Prop} {a:Act}
 (l:jE P ops S c v a) (h:rp P ops S e K (a.put c.dst v)):
 rp P ops S e (λa'=>jE P ops S c v a'/\K (a'.put c.dst v)) a:=by
 obtain⟨g,m,i⟩:=Oper.apart_spec q;intro o j;obtain rfl:o=d:=HV (j.symm.trans k);obtain⟨u,n,p⟩:=h o j;refine⟨u,n.of_same (execOp_put o t a c.dst v g).symm (wanted_put o a c.dst v g).symm,l.of_same (execOp_put c s a o.dst u i) (wanted_put c a o.dst u i),?_⟩;rw[<-Act.put_comm a v u m];exact p
theorem CW {d:Nat} {a:Act} {w:wR} {K:Act->Prop} {j:Act->wR->Prop} {m:Exit->Act->wR->Prop} (p:d<ops.size) (k:S w)
 (h:∀a w,S w->K a->j a w) (q:rp P ops S d K a):wpOp P ops m d j a w:=by
 unfold wpOp;obtain⟨o,l⟩:∃o,ops[d]?=gk o:=⟨_,WL p⟩;simp only[l];obtain⟨v,s,g⟩:=q o l;rcases s with⟨i,t⟩|⟨i,rfl⟩
 ·simp only[i,if_true];have b:=t w k;refine .inl ?_;unfold Oper.wp;generalize(Bq a.eval o).run P w=r at*;cases r with
  |ok n y=>
   cases n<;>simp only[MY]at b<;>simp only[Oper.upon]
   case value u=>obtain⟨rfl,c⟩:=b;exact h _ _ c g
   case skip=>obtain⟨rfl,c⟩:=b;exact h _ _ c g
   case enter f args=>exact b.mono λe A ⟨z,c⟩=>by subst z;exact h _ _ c g
  |halt x y=>simp only[MY]at b
 ·simp only[i,Ax,if_false];exact h _ _ k g
def mT (P:TQ) (md:U5) (ops:z8 Oper) (S:wR->Prop) (n:Nat) (L:z8 Bool->Act->Prop):Nat->z8 Bool->Act->Prop
 |0,listed,a=>L listed a
 |f+1,listed,a=>
  HQ md ops listed≠[]/\∀b∈HQ md ops listed,b<n/\rp P ops S b (mT P md ops S n L f (listed.setIfInBounds b wP)) a
theorem oN {b:Nat} {listed:z8 Bool} (h:b∈HQ md ops listed):b<ops.size:=by
 unfold HQ at h;rw[List.mem_filter,List.mem_range]at h;exact h.1
theorem od {n g:Nat} {L:z8 Bool->Act->Prop} {Q':Exit->Act->wR->Prop} (c:∀listed a w,S w->L listed a->wpAny P md ops Q' g listed a w):
 ∀(f:Nat) (listed:z8 Bool) (a:Act) (w:wR),S w->mT P md ops S n L f listed a->wpAny P md ops Q' (f+g) listed a w
 |0,listed,a,w,b,h=>by rw[Nat.zero_add];exact c _ _ _ b h
 |f+1,listed,a,w,b,h=>by
  rw[show f+1+g=(f+g)+1 by omega];exact⟨λi=>A8 i h.1,λe d=>CW (oN d) b (λa' j l k=>od c f _ a' j l k) (h.2 e d).2⟩
theorem Da {n d:Nat} {g:Oper} {v:xf} {L:z8 Bool->Act->Prop} (y:ops[d]?=gk g) (D:∀(c:Nat) (o:Oper) s b,ops[c]?=gk o->o.op≠ .select s b)
 (hs:Region.sinkB md ops n=wP) (hc:VR md ops n=wP) (hn:n<ops.size) (B:d<n)
 (Z:∀listed a,L listed a->∀c∈HQ md ops listed,n<=c):
 ∀(f:Nat) (listed:z8 Bool) (a:Act),HeadInv md ops n listed->
  (∀c l,ops[c]?=gk l->c≠d->listed.getD c wP=R->(∀e∈l.after,Vg md e=wP->e.on≠d)->g.apart ops l=wP)->
  d∈HQ md ops listed->jE P ops S g v a->
  mT P md ops S n L f (listed.setIfInBounds d wP) (a.put g.dst v)->mT P md ops S n L (f+1) listed a:=by
 have z:∀(a:Act) (K:Act->Prop),jE P ops S g v a->K (a.put g.dst v)->rp P ops S d K a:=λa K q G o M=>by
  obtain rfl:o=g:=HV (M.symm.trans y);exact⟨v,q,G⟩
 intro f
 induction f with
 |zero=>
  intro listed a u _ i q H;have p:=(mem_ready.1 i).1;refine⟨λh=>(by rw[h]at i;cases i),λc m=>?_⟩;have w:c<n:=by
   rcases z6 c n with h|h
   ·exact h
   ·exact A8 m (tail_waits hs hc hn u _ d rfl B p c h)
  refine⟨w,?_⟩;by_cases j:c=d
  ·subst j;exact z _ _ q H
  ·have:=Z _ _ H c (Vz m j);omega
 |succ f N=>
  intro listed a u F i q H;have p:=(mem_ready.1 i).1;refine⟨λh=>(by rw[h]at i;cases i),λc m=>?_⟩;have w:c<n:=by
   rcases z6 c n with h|h
   ·exact h
   ·exact A8 m (tail_waits hs hc hn u _ d rfl B p c h)
  refine⟨w,?_⟩;by_cases j:c=d
  ·subst j;exact z _ _ q H
  ·have t:=(H.2 c (Vz m j)).2;obtain⟨E,l,x,X⟩:=mem_ready.1 m;have Y:∀e∈l.after,Vg md e=wP->e.on≠d:=λe O hb heq=>by
    have t:=X e O hb;rw[heq,W2 p]at t;cases t
   have Q:=B8 x (F c l x j E Y) (λs b=>D d g s b y) (λs b=>D c l s b x) q t
   have ab:∀k ok,ops[k]?=gk ok->k≠d->(listed.setIfInBounds c wP).getD k wP=R->
    (∀e∈ok.after,Vg md e=wP->e.on≠d)->g.apart ops ok=wP:=λk ok T V p W=>by
    refine F k ok T V ?_ W;by_cases C:c=k
    ·subst C;exact E
    ·rw[getD_set_ne wP C]at p;exact p
   refine zk (λa' A=>N (listed.setIfInBounds c wP) a' (u.set m w) ab (Vz i (Ne.symm j)) A.1 ?_) Q;rw[VU _ _ j];exact A.2
def lk (P:TQ) (ops:z8 Oper) (S:wR->Prop) (K:Act->Prop):List Oper->Act->Prop
 |[],a=>K a
 |o::b,a=>∃v,jE P ops S o v a/\lk P ops S K b (a.put o.dst v)
theorem xy {n g:Nat} {e:Act->Prop} (m:UL ops=wP) (hs:Region.sinkB md ops n=wP) (hc:VR md ops n=wP) (hn:n<ops.size):
 ∀(b:List Oper) (k:Nat) (listed:z8 Bool) (a:Act),(∀c,c<b.length->b[c]?=ops[k+c]?)->k+b.length=n->HeadInv md ops n listed->
 Vn md ops g b.length k listed=wP->lk P ops S e b a->
 mT P md ops S n (λp a'=>Region.seqB md ops g n p=wP/\e a') b.length listed a
 |[],k,listed,a,_,d,_,hB,h=>by
  have:k=n:=by simpa using d
  subst this;exact⟨by simpa[Vn]using hB,h⟩
 |o::b,k,listed,a,hl,d,i,hB,h=>by
  have f:ops[k]?=gk o:=by simpa using(hl 0 oS).symm
  simp only[Co,Vn,Az]at hB;obtain⟨⟨q,s⟩,x⟩:=hB;have j:k<n:=by simp only[Co]at d;omega
  have l:k∈HQ md ops listed:=by simpa using q
  obtain⟨v,t,u⟩:=h
  exact Da f (Vf m) hs hc hn j (λp a' w=>seqB_ready w.1) b.length listed a i (VJ f s) l t
   (xy m hs hc hn b (k+1) _ _ (λc y=>by have:=hl (c+1) oT;simpa[Us,Vi 1 c]using this) (by simp only[Co]at d;omega) (i.set l j) x u)
theorem bV {id:Nat} {Q:Exit->Act->wR->Prop} {a:Act} {w:wR} {b:List Oper} (n:Nat) (i:P.follows .mixedOrders=wP) (hB:Region.lexTailB .any b.toArray n=wP) (j:S w.drew)
 (h:lk P b.toArray S (λa'=>∀W,S W->y7 P b.toArray Q (b.drop n) a' W) (b.take n) a):(Code.region id b.toArray wP).wp P Q a w:=by
 simp only[Region.lexTailB,Az,HJ]at hB;obtain⟨⟨⟨⟨p,hn⟩,hs⟩,hc⟩,q⟩:=hB;have x:n<b.length:=by simpa using hn
 have c:(b.take n).length=n:=by simp;omega
 have g:(b.drop n).length=b.toArray.size-n:=by simp
 have s:HeadInv .any b.toArray n (Uz b.toArray.size R):=
  ⟨by simp,λd u _ hl=>(by rw[VA]at hl;cases hl),λt _ k=>getD_in (by simpa using k) (VA _ _)⟩
 have H:=xy (md:= .any) (g:=b.toArray.size-n) p hs hc hn (b.take n) 0 _ a (λd e=>by
  have l:d<n:=by rw[c]at e;exact e
  simp[l]) (by simpa using c) s (by rw[c];exact q) h
 refine Wk i ?_
 have:=od (Q':=Q) (g:=b.toArray.size-n) (λlisted a' W m f=>by
  have:=wpAny_of_seq (md:= .any) (Q':=Q) (b.drop n) n listed a' W (λd=>by simp[V3]) (by rw[g];exact f.1) (f.2 W m)
  rwa[g]at this) _ _ _ w.drew j H
 rw[c,show n+(b.toArray.size-n)=b.toArray.size by omega]at this;exact this
theorem cX {K:Act->Prop} {a:Act} (h:K a):lk P ops S K [] a:=h
theorem yC {K:Act->Prop} {a:Act} {o:Oper} {c:List Oper} {v:xf} (hg:o.guard=U)
 (d:∀W,S W->(Bq a.eval o).run P W= .ok (.value v) W) (h:lk P ops S K c (a.put o.dst v)):lk P ops S K (o::c) a:=
 ⟨v,.inl ⟨by simp[A6,hg],λW b=>by rw[d W b];exact⟨rfl,b⟩⟩,h⟩
theorem Kw {K:Act->Prop} {a:Act} {o:Oper} {b:List Oper} {v:xf} {f:FuncId} {args:z8 xf} (hg:o.guard=U)
 (c:∀W,(Bq a.eval o).run P W= .ok (.enter f args) W) (hc:∀W,S W->wS P f args W (λe d=>e= .returned v/\S d))
 (h:lk P ops S K b (a.put o.dst v)):lk P ops S K (o::b) a:=
 ⟨v,.inl ⟨by simp[A6,hg],λW g=>by rw[c W];exact hc W g⟩,h⟩
end
section
variable {P : TQ} {ops : z8 Oper} {S : wR → Prop} {K : Act → Prop} {a a' : Act} {o : Oper} {r : List Oper} {v : xf}
theorem kO {b:Prop} (c:b) (h:lk P ops S K r a') (hg:o.guard=none:=by exact rfl) (d:b->∀W,S W->(execOp a.eval o).run P W= .ok (.value v) W:=by intro c W e;have g:=c W e;go_simp<;>rfl) (f:a.put o.dst v=a':=by(try simp only[yQ,yU,yX,yY])<;>exact rfl):lk P ops S K (o::r) a:=yC hg (d c) (f▸h)
theorem kU (h:lk P ops S K r a') (hg:o.guard=none:=by exact rfl) (b:∀W,S W->(execOp a.eval o).run P W= .ok (.value v) W:=by intro W d;go_simp<;>rfl) (c:a.put o.dst v=a':=by(try simp only[yQ,yU,yX,yY])<;>exact rfl):lk P ops S K (o::r) a:=yC hg b (c▸h)
theorem kX {f:FuncId} {args:Array Value} (hc:∀W,S W->Calls P f args W (λe b=>e= .returned v/\Below W.heap.size W b)) (h:lk P ops S K r a') (hg:o.guard=none:=by exact rfl)
 (d:∀W,(execOp a.eval o).run P W= .ok (.enter f args) W:=by intro W;go_simp<;>first|exact⟨rfl,rfl⟩|exact rfl) (hb:∀W b,S W->Below W.heap.size W b->S b:=by intro W b c h;exact ae c h) (g:a.put o.dst v=a':=by(try simp only[yQ,yU,yX,yY])<;>exact rfl):lk P ops S K (o::r) a:=Kw hg d (λW c=>(hc W c).mono (λe i h=>⟨h.1,hb _ _ c h.2⟩)) (g▸h)
theorem kV (hg:o.guard=none) (b:∀W,S W->(execOp a.eval o).run P W= .ok (.value v) W) (h:lk P ops S K r a') (c:a.put o.dst v=a':=by(try simp only[yQ,yU,yX,yY])<;>exact rfl):lk P ops S K (o::r) a:=yC hg b (c▸h)
end
section
variable {P : TQ} {ops : z8 Oper} {md : U5} {S : wR → Prop}
def yW (md:U5) (ops:z8 Oper) (n:Nat):Bool:=
 (List.range n).all λa=>decide (a=0)||(List.range (n+1)).any λb=>decide (a<b)&&Region.waitsFor md ops b a
theorem xR {n:Nat} {listed:z8 Bool} (hs:yW md ops n=wP) (hc:VR md ops n=wP) (hn:n<ops.size) (k:HeadInv md ops n listed):
 ∀(d g:Nat),n-g=d->1<=g->g<n->listed.getD g wP=R->∀a,n<=a->a∉HQ md ops listed:=by
 intro d
 induction d using Nat.strongRecOn with
 |_ d u=>
  intro g D F v q a E m;obtain⟨_,o,l,t⟩:=mem_ready.1 m;have C:a<ops.size:=(Array.getElem?_eq_some_iff.1 l).1;by_cases y:a=n
  ·subst y;have b:=List.all_eq_true.1 hs g (List.mem_range.2 v);simp only[Bool.or_eq_true,HJ]at b;obtain⟨f,w,r⟩:=List.any_eq_true.1 (b.resolve_left oO);simp only[Az,HJ]at r;obtain⟨p,s,e,i,hb,j⟩:=Region.waitsFor_spec r.2;have G:f<=a:=by have:=List.mem_range.1 w;omega
   by_cases z:f=a
   ·subst z;have:p=o:=HV (s.symm.trans l);subst this;have c:=t e i hb;rw[j,W2 q]at c;cases c
   ·cases hl:listed.getD f R with
    |true=>
     have c:=k.closed f p s hl e i hb;rw[j,W2 q]at c;cases c
    |false=>
     have A:f<listed.size:=by rw[k.size];omega
     exact u (a-f) oO f rfl oO oO (getD_in A hl) a (w5 _) m
  ·have b:=List.all_eq_true.1 hc a (List.mem_range.2 C);simp only[Bool.or_eq_true,HJ]at b;rcases b with b|b
   ·omega
   ·obtain⟨x,B,e,i,hb,j⟩:=Region.waitsFor_spec b;have:x=o:=HV (B.symm.trans l);subst this;have c:=t e i hb;rw[j,W2 (k.tail (a-1) oO oO)]at c;cases c
theorem Bh {n d:Nat} {g:Oper} {v:xf} {L:z8 Bool->Act->Prop} (x:ops[d]?=gk g) (D:∀(c:Nat) (r:Oper) q b,ops[c]?=gk r->r.op≠ .select q b)
 (hs:yW md ops n=wP) (hc:VR md ops n=wP) (hn:n<ops.size) (A:1<=d) (B:d<n)
 (ab:∀listed a,L listed a->∀c∈HQ md ops listed,n<=c):
 ∀(f:Nat) (listed:z8 Bool) (a:Act),HeadInv md ops n listed->
  (∀c l,ops[c]?=gk l->c≠d->listed.getD c wP=R->(∀e∈l.after,Vg md e=wP->e.on≠d)->g.apart ops l=wP)->
  d∈HQ md ops listed->jE P ops S g v a->
  mT P md ops S n L f (listed.setIfInBounds d wP) (a.put g.dst v)->mT P md ops S n L (f+1) listed a:=by
 have y:∀(a:Act) (K:Act->Prop),jE P ops S g v a->K (a.put g.dst v)->rp P ops S d K a:=λa K p G r M=>by
  obtain rfl:r=g:=HV (M.symm.trans x);exact⟨v,p,G⟩
 intro f
 induction f with
 |zero=>
  intro listed a t _ i p H;have o:=(mem_ready.1 i).1;refine⟨λh=>(by rw[h]at i;cases i),λc m=>?_⟩;have u:c<n:=by
   rcases z6 c n with h|h
   ·exact h
   ·exact A8 m (xR hs hc hn t _ d rfl A B o c h)
  refine⟨u,?_⟩;by_cases j:c=d
  ·subst j;exact y _ _ p H
  ·have:=ab _ _ H c (Vz m j);omega
 |succ f N=>
  intro listed a t F i p H;have o:=(mem_ready.1 i).1;refine⟨λh=>(by rw[h]at i;cases i),λc m=>?_⟩;have u:c<n:=by
   rcases z6 c n with h|h
   ·exact h
   ·exact A8 m (xR hs hc hn t _ d rfl A B o c h)
  refine⟨u,?_⟩;by_cases j:c=d
  ·subst j;exact y _ _ p H
  ·have s:=(H.2 c (Vz m j)).2;obtain⟨E,l,w,Y⟩:=mem_ready.1 m;have Z:∀e∈l.after,Vg md e=wP->e.on≠d:=λe O hb heq=>by
    have s:=Y e O hb;rw[heq,W2 o]at s;cases s
   have Q:=B8 w (F c l w j E Z) (λq b=>D d g q b x) (λq b=>D c l q b w) p s
   have ac:∀k ok,ops[k]?=gk ok->k≠d->(listed.setIfInBounds c wP).getD k wP=R->
    (∀e∈ok.after,Vg md e=wP->e.on≠d)->g.apart ops ok=wP:=λk ok T W o X=>by
    refine F k ok T W ?_ X;by_cases C:c=k
    ·subst C;exact E
    ·rw[getD_set_ne wP C]at o;exact o
   refine zk (λV z=>N (listed.setIfInBounds c wP) V (t.set m u) ac (Vz i (Ne.symm j)) z.1 ?_) Q;rw[VU _ _ j];exact z.2
theorem vg {n g:Nat} {e:Act->Prop} (o:UL ops=wP) (hs:yW md ops n=wP) (hc:VR md ops n=wP) (hn:n<ops.size):
 ∀(b:List Oper) (k:Nat) (listed:z8 Bool) (a:Act),1<=k->(∀c,c<b.length->b[c]?=ops[k+c]?)->k+b.length=n->HeadInv md ops n listed->
 Vn md ops g b.length k listed=wP->lk P ops S e b a->
 mT P md ops S n (λp f=>Region.seqB md ops g n p=wP/\e f) b.length listed a
 |[],k,listed,a,_,_,d,_,hB,h=>by
  have:k=n:=by simpa using d
  subst this;exact⟨by simpa[Vn]using hB,h⟩
 |q::b,k,listed,a,x,hl,d,j,hB,h=>by
  have i:ops[k]?=gk q:=by simpa using(hl 0 oS).symm
  simp only[Co,Vn,Az]at hB;obtain⟨⟨r,s⟩,y⟩:=hB;have l:k<n:=by simp only[Co]at d;omega
  have m:k∈HQ md ops listed:=by simpa using r
  obtain⟨v,t,u⟩:=h
  exact Bh i (Vf o) hs hc hn x l (λp f w=>seqB_ready w.1) b.length listed a j (VJ i s) m t
   (vg o hs hc hn b (k+1) _ _ oO (λc z=>by have:=hl (c+1) oT;simpa[Us,Vi 1 c]using this) (by simp only[Co]at d;omega) (j.set m l) y u)
def Cn (md:U5) (ops:z8 Oper) (n:Nat):Bool:=
 UL ops&&decide (1<=n)&&decide (n<ops.size)&&yW md ops n&&VR md ops n&&Region.free md ops (Uz ops.size R) 0&&(HQ md ops (Uz ops.size R)).contains 0&&
  Vn md ops (ops.size-n) (n-1) 1 ((Uz ops.size R).setIfInBounds 0 wP)
theorem Fg {id:Nat} {Q:Exit->Act->wR->Prop} {a:Act} {w:wR} {b:Oper} {d:List Oper} {v0:xf} (n:Nat) (r:P.follows .mixedOrders=wP) (hB:Cn .any (b::d).toArray n=wP)
 (hg:b.guard=U) (s:∀c a w,Q (.panic c) (a.put b.dst v0) w->Q (.panic c) a w) (t:∀W,(Bq a.eval b).run P W= .ok (.value v0) W) (u:S w.drew)
 (h:lk P (b::d).toArray S (λi=>∀W,S W->y7 P (b::d).toArray Q ((b::d).drop n) i W) (d.take (n-1)) (a.put b.dst v0)):(Code.region id (b::d).toArray wP).wp P Q a w:=by
 simp only[Cn,Az,HJ]at hB;obtain⟨⟨⟨⟨⟨⟨⟨p,x⟩,hn⟩,hs⟩,hc⟩,y⟩,z⟩,E⟩:=hB;have A:n<(b::d).length:=by simpa using hn
 have M:n-1<d.length:=by simp at A;omega
 have g:(d.take (n-1)).length=n-1:=by simp;omega
 have m:((b::d).drop n).length=(b::d).toArray.size-n:=by simp
 have o:(b::d).toArray[0]?=gk b:=rfl;have q:0∈HQ .any (b::d).toArray (Uz (b::d).toArray.size R):=by simpa using z
 have G:HeadInv .any (b::d).toArray n (Uz (b::d).toArray.size R):=
  ⟨by simp,λf L _ hl=>(by rw[VA]at hl;cases hl),λK _ v=>getD_in (by simpa using v) (VA _ _)⟩
 have F:=G.set q x
 have H:=vg (P:=P) (S:=S) (md:= .any) (g:=(b::d).toArray.size-n) p hs hc hn (d.take (n-1)) 1 _ (a.put b.dst v0) (w5 _) (λf j=>by
  have B:f<n-1:=by rw[g]at j;exact j
  have e:(b::d).toArray[1+f]?=d[f]?:=by rw[Vi];simp
  rw[e]
  simp[B]) (by rw[g];omega) F (by rw[g];exact E) h
 refine Wk r ?_
 have k:=od (Q':=Q) (g:=(b::d).toArray.size-n) (λlisted i W C l=>by
  have:=wpAny_of_seq (md:= .any) (Q':=Q) ((b::d).drop n) n listed i W (λf=>by simp[V3]) (by rw[m];exact l.1) (l.2 W C)
  rwa[m]at this) _ _ _ w.drew u H
 rw[g]at k;have D:(b::d).toArray.size=(n-1+((b::d).toArray.size-n))+1:=oO;have key:=wpAny_first (P:=P) (md:= .any) (Q:=Q) o (Vf p) (v:=v0) s (n-1+((b::d).toArray.size-n)) (Uz (b::d).toArray.size R) a w.drew (VJ o y) q (.inl ⟨by simp[A6,hg],t⟩) k;rw[<-D]at key;exact key
end
section
variable {P : TQ} {ops : z8 Oper} {md : U5} {S : wR → Prop}
def Aw (P:TQ) (k:xf->wR->Prop):Result Next->Prop
 |.ok (.value u) b=>k u b
 |.ok .skip b=>k UR b
 |.ok (.enter f args) b=>wS P f args b (λe c=>∃v,e= .returned v/\k v c)
 |_=>False
theorem mY {k c:xf->wR->Prop} (h:∀v w,k v w->c v w):∀{r:Result Next},Aw P k r->Aw P c r
 |.ok (.value u) d,b=>h _ _ b
 |.ok .skip d,b=>h _ _ b
 |.ok (.enter f args) d,b=>Calls.mono b λe j ⟨v,g,i⟩=>⟨v,g,h _ _ i⟩
 |.halt _ _,b=>b.elim
def kj (P:TQ) (ops:z8 Oper) (S:wR->Prop) (o:Oper) (v:xf) (a:Act):Prop:=
 (A6 o (RM ops a.tmps)=wP/\∀w,S w->(Bq a.eval o).run P w= .ok (.value v) w)\/(A6 o (RM ops a.tmps)=R/\v=UR)
theorem kj.of_same {o:Oper} {v:xf} {a a':Act} (b:kj P ops S o v a) (c:Bq a'.eval o=Bq a.eval o)
 (d:A6 o (RM ops a'.tmps)=A6 o (RM ops a.tmps)):kj P ops S o v a':=by
 unfold kj at*;rw[c,d];exact b
def zr (P:TQ) (ops:z8 Oper) (S:wR->Prop) (c:Nat) (K:Act->wR->Prop) (a:Act) (w:wR):Prop:=
 ∃o,ops[c]?=gk o/\((A6 o (RM ops a.tmps)=wP/\Aw P (λv b=>S b/\K (a.put o.dst v) b) ((Bq a.eval o).run P w))\/
  (A6 o (RM ops a.tmps)=R/\S w/\K (a.put o.dst UR) w))
theorem yx {d:Nat} {a:Act} {w:wR} {K e:Act->wR->Prop} (h:∀a w,S w->K a w->e a w) (g:zr P ops S d K a w):zr P ops S d e a w:=by
 obtain⟨o,f,b|b⟩:=g
 ·exact⟨o,f,.inl ⟨b.1,mY (λv i c=>⟨c.1,h _ _ c.1 c.2⟩) b.2⟩⟩
 ·exact⟨o,f,.inr ⟨b.1,b.2.1,h _ _ b.2.1 b.2.2⟩⟩
theorem Qi {f:Nat} {c e:Oper} {v:xf} (q:ops[f]?=gk e) (t:c.apart ops e=wP)
 (x:∀g b,c.op≠ .select g b) (y:∀g b,e.op≠ .select g b) {K:Act->wR->Prop} {a:Act} {w:wR}
 (s:kj P ops S c v a) (h:zr P ops S f K (a.put c.dst v) w):
 zr P ops S f (λa' i=>kj P ops S c v a'/\K (a'.put c.dst v) i) a w:=by
 obtain⟨j,l,m⟩:=Oper.apart_spec t;obtain⟨o,n,d⟩:=h;obtain rfl:o=e:=HV (n.symm.trans q);have e1:Bq (a.put c.dst v).eval o=Bq a.eval o:=execOp_put o y a c.dst v j;have e2:A6 o (RM ops (a.put c.dst v).tmps)=A6 o (RM ops a.tmps):=wanted_put o a c.dst v j;rw[e1,e2]at d;have key:∀u,kj P ops S c v (a.put o.dst u):=λu=>s.of_same (execOp_put c x a o.dst u m) (wanted_put c a o.dst u m);refine⟨o,n,?_⟩;rcases d with d|d
 ·refine .inl ⟨d.1,mY (λu i p=>⟨p.1,key u,?_⟩) d.2⟩;rw[<-Act.put_comm a v u l];exact p.2
 ·refine .inr ⟨d.1,d.2.1,key UR,?_⟩;rw[<-Act.put_comm a v UR l];exact d.2.2
theorem Gy {g:Nat} {a:Act} {w:wR} {K:Act->wR->Prop} {i:Act->wR->Prop} {j:Exit->Act->wR->Prop}
 (h:∀a w,K a w->i a w) (c:zr P ops S g K a w):wpOp P ops j g i a w:=by
 obtain⟨o,l,c⟩:=c;unfold wpOp;simp only[l];rcases c with⟨d,b⟩|⟨d,_,b⟩
 ·simp only[d,if_true];refine .inl ?_;unfold Oper.wp;generalize(Bq a.eval o).run P w=r at*;cases r with
  |ok n m=>
   cases n<;>simp only[Aw]at b<;>simp only[Oper.upon]
   case value u=>exact h _ _ b.2
   case skip=>exact h _ _ b.2
   case enter f args=>exact b.mono λe s ⟨v,p,_,q⟩=>by subst p;exact h _ _ q
  |halt x m=>simp only[Aw]at b
 ·simp only[d,Ax,if_false];exact h _ _ b
def mf (P:TQ) (md:U5) (ops:z8 Oper) (S:wR->Prop) (K:Act->wR->Prop):Nat->z8 Bool->Act->wR->Prop
 |0,listed,a,w=>HQ md ops listed=[]/\K a w
 |f+1,listed,a,w=>HQ md ops listed≠[]/\∀b∈HQ md ops listed,zr P ops S b (mf P md ops S K f (listed.setIfInBounds b wP)) a w
theorem p9 {b:Exit->Act->wR->Prop}:∀(f:Nat) (listed:z8 Bool) (a:Act) (w:wR),mf P md ops S (b .normal) f listed a w->wpAny P md ops b f listed a w
 |0,listed,a,w,h=>h
 |f+1,listed,a,w,h=>⟨λd=>A8 d h.1,λc e=>Gy (λa' g i=>p9 f _ a' g i) (h.2 c e)⟩
theorem vu {d:Nat} {g:Oper} {v:xf} {K:Act->wR->Prop} (y:ops[d]?=gk g) (D:∀(c:Nat) (o:Oper) q b,ops[c]?=gk o->o.op≠ .select q b):
 ∀(f:Nat) (listed:z8 Bool) (a:Act) (w:wR),S w->
  (∀c l,ops[c]?=gk l->c≠d->listed.getD c wP=R->(∀e∈l.after,Vg md e=wP->e.on≠d)->g.apart ops l=wP)->
  d∈HQ md ops listed->kj P ops S g v a->
  mf P md ops S K f (listed.setIfInBounds d wP) (a.put g.dst v) w->mf P md ops S K (f+1) listed a w:=by
 have z:∀(a:Act) (w:wR) (K:Act->wR->Prop),S w->kj P ops S g v a->K (a.put g.dst v) w->zr P ops S d K a w:=λa w K m p A=>by
  refine⟨g,y,?_⟩;rcases p with⟨i,u⟩|⟨i,rfl⟩
  ·refine .inl ⟨i,?_⟩;rw[u w m];exact⟨m,A⟩
  ·exact .inr ⟨i,m,A⟩
 intro f
 induction f with
 |zero=>
  intro listed a w m _ n p H;refine⟨λh=>(by rw[h]at n;cases n),λc s=>?_⟩;by_cases j:c=d
  ·subst j;exact z _ _ _ m p H
  ·have:=Vz s j;rw[H.1]at this;cases this
 |succ f G=>
  intro listed a w m F n p H;have t:=(mem_ready.1 n).1;refine⟨λh=>(by rw[h]at n;cases n),λc s=>?_⟩;by_cases j:c=d
  ·subst j;exact z _ _ _ m p H
  ·have i:=H.2 c (Vz s j);obtain⟨E,l,x,V⟩:=mem_ready.1 s;have W:∀e∈l.after,Vg md e=wP->e.on≠d:=λe L hb heq=>by
    have i:=V e L hb;rw[heq,W2 t]at i;cases i
   have u:=Qi x (F c l x j E W) (λq b=>D d g q b y) (λq b=>D c l q b x) p i
   have X:∀k ok,ops[k]?=gk ok->k≠d->(listed.setIfInBounds c wP).getD k wP=R->
    (∀e∈ok.after,Vg md e=wP->e.on≠d)->g.apart ops ok=wP:=λk ok M O t Q=>by
    refine F k ok M O ?_ Q;by_cases C:c=k
    ·subst C;exact E
    ·rw[getD_set_ne wP C]at t;exact t
   refine yx (λa' N T B=>G (listed.setIfInBounds c wP) a' N T X (Vz n (Ne.symm j)) B.1 ?_) u;rw[VU _ _ j];exact B.2
theorem vZ {b:Nat} {K:Act->wR->Prop} {f:Nat} {listed:z8 Bool} {a:Act} {w:wR} (c:HQ md ops listed=[b])
 (h:zr P ops S b (mf P md ops S K f (listed.setIfInBounds b wP)) a w):mf P md ops S K (f+1) listed a w:=
 ⟨λg=>(by rw[g]at c;cases c),λe d=>by
  rw[c]at d;obtain rfl:e=b:=by simpa using d
  exact h⟩
def AF (P:TQ) (ops:z8 Oper) (S:wR->Prop) (K:Act->wR->Prop):List (Bool×Nat)->Act->wR->Prop
 |[],a,w=>K a w
 |(wP,k)::r,a,w=>zr P ops S k (AF P ops S K r) a w
 |(R,k)::r,a,w=>∃o,ops[k]?=gk o/\∃v,kj P ops S o v a/\AF P ops S K r (a.put o.dst v) w
def qg (md:U5) (ops:z8 Oper):List (Bool×Nat)->z8 Bool->Bool
 |[],listed=>(HQ md ops listed).isEmpty
 |(wP,k)::r,listed=>decide (HQ md ops listed=[k])&&qg md ops r (listed.setIfInBounds k wP)
 |(R,k)::r,listed=>(HQ md ops listed).contains k&&Region.free md ops listed k&&qg md ops r (listed.setIfInBounds k wP)
theorem ti {K:Act->wR->Prop} (d:UL ops=wP):∀(c:List (Bool×Nat)) (listed:z8 Bool) (a:Act) (w:wR),S w->qg md ops c listed=wP->AF P ops S K c a w->
 mf P md ops S K c.length listed a w
 |[],listed,a,w,b,hB,h=>⟨by simpa[qg]using hB,h⟩
 |(wP,k)::r,listed,a,w,b,hB,h=>by
  simp only[qg,Az,HJ]at hB;exact vZ hB.1 (yx (λa' f l g=>ti d r _ a' f l hB.2 g) h)
 |(R,k)::r,listed,a,w,b,hB,h=>by
  simp only[qg,Az]at hB;obtain⟨o,e,v,i,j⟩:=h;exact vu e (Vf d) r.length listed a w b (VJ e hB.1.2) (by simpa using hB.1.1) i (ti d r _ _ w b hB.2 j)
def aH (c:List Oper):List (Bool×Nat)->List (Bool×Nat×Oper)
 |[]=>[]
 |(b,k)::r=>match c[k]? with
  |some o=>(b,k,o)::aH c r
  |none=>[]
def bI (P:TQ) (ops:z8 Oper) (S:wR->Prop) (K:Act->wR->Prop):List (Bool×Nat×Oper)->Act->wR->Prop
 |[],a,w=>K a w
 |(wP,_,o)::r,a,w=>(A6 o (RM ops a.tmps)=wP/\Aw P (λv b=>S b/\bI P ops S K r (a.put o.dst v) b) ((Bq a.eval o).run P w))\/
  (A6 o (RM ops a.tmps)=R/\S w/\bI P ops S K r (a.put o.dst UR) w)
 |(R,_,o)::r,a,w=>∃v,kj P ops S o v a/\bI P ops S K r (a.put o.dst v) w
theorem qX {b:List Oper} {K:Act->wR->Prop}:∀(f:List (Bool×Nat)) (listed:z8 Bool) (a:Act) (w:wR),qg md b.toArray f listed=wP->bI P b.toArray S K (aH b f) a w->AF P b.toArray S K f a w
 |[],_,_,_,_,h=>h
 |(wP,k)::r,listed,a,w,hB,h=>by
  simp only[qg,Az,HJ]at hB;have d:k<b.toArray.size:=oN (md:=md) (listed:=listed) (by rw[hB.1];simp);have e:b[k]?=gk b[k]:=List.getElem?_eq_getElem (by simpa using d);simp only[aH,e]at h;refine⟨b[k],by simp,?_⟩;rcases h with h|h
  ·exact .inl ⟨h.1,mY (λv i c=>⟨c.1,qX r _ _ _ hB.2 c.2⟩) h.2⟩
  ·exact .inr ⟨h.1,h.2.1,qX r _ _ _ hB.2 h.2.2⟩
 |(R,k)::r,listed,a,w,hB,h=>by
  simp only[qg,Az]at hB;have d:k<b.toArray.size:=oN (md:=md) (listed:=listed) (by simpa using hB.1.1);have e:b[k]?=gk b[k]:=List.getElem?_eq_getElem (by simpa using d);simp only[aH,e]at h;obtain⟨v,g,c⟩:=h;exact⟨b[k],by simp,v,g,qX r _ _ _ hB.2 c⟩
theorem G8 {id:Nat} {Q:Exit->Act->wR->Prop} {a:Act} {w:wR} {b:List Oper} (c:List (Bool×Nat)) (d:P.follows .mixedOrders=wP) (hB:(UL b.toArray&&decide (c.length=b.toArray.size)&&qg .any b.toArray c (Uz b.toArray.size R))=wP)
 (e:S w.drew) (h:bI P b.toArray S (λa' W=>y7 P b.toArray Q [] a' W) (aH b c) a w.drew):(Code.region id b.toArray wP).wp P Q a w:=by
 simp only[Az,HJ]at hB;refine Wk d ?_;rw[<-hB.1.2];refine p9 (S:=S) _ _ _ _ ?_;have:=ti (P:=P) (K:=Q .normal) hB.1.1 c _ a w.drew e hB.2 (qX c _ a w.drew hB.2 h);rw[<-hB.1.2]at this;exact this
section
variable {K : Act → wR → Prop} {a : Act} {w : wR} {r : List (Bool × Nat × Oper)} {k : Nat} {o : Oper} {v : xf}
theorem aj (h:K a w):bI P ops S K [] a w:=h
theorem lP (hg:o.guard=U) (b:∀W,S W->(Bq a.eval o).run P W= .ok (.value v) W) (h:bI P ops S K r (a.put o.dst v) w):bI P ops S K ((R,k,o)::r) a w:=
 ⟨v,.inl ⟨by simp[A6,hg],b⟩,h⟩
theorem vm (hg:A6 o (RM ops a.tmps)=wP) (b:∀W,S W->(Bq a.eval o).run P W= .ok (.value v) W) (h:bI P ops S K r (a.put o.dst v) w):bI P ops S K ((R,k,o)::r) a w:=
 ⟨v,.inl ⟨hg,b⟩,h⟩
theorem jn (hg:A6 o (RM ops a.tmps)=R) (h:bI P ops S K r (a.put o.dst UR) w):bI P ops S K ((R,k,o)::r) a w:=
 ⟨UR,.inr ⟨hg,rfl⟩,h⟩
theorem fl (hg:A6 o (RM ops a.tmps)=wP) {w':wR} (b:(Bq a.eval o).run P w= .ok (.value v) w') (c:S w') (h:bI P ops S K r (a.put o.dst v) w'):bI P ops S K ((wP,k,o)::r) a w:=
 .inl ⟨hg,by rw[b];exact⟨c,h⟩⟩
theorem iz (hg:A6 o (RM ops a.tmps)=R) (b:S w) (h:bI P ops S K r (a.put o.dst UR) w):bI P ops S K ((wP,k,o)::r) a w:=
 .inr ⟨hg,b,h⟩
theorem nG (hg:A6 o (RM ops a.tmps)=wP) {f:FuncId} {args:z8 xf} (c:∀W,(Bq a.eval o).run P W= .ok (.enter f args) W)
 (hc:wS P f args w (λe b=>∃v,e= .returned v/\S b/\bI P ops S K r (a.put o.dst v) b)):bI P ops S K ((wP,k,o)::r) a w:=
 .inl ⟨hg,by rw[c w];exact hc⟩
end
end
section
variable {P : TQ} {ops : z8 Oper} {S : wR → Prop} {K : Act → wR → Prop} {a a' : Act} {w : wR} {r : List (Bool × Nat × Oper)} {k : Nat} {o : Oper} {v : xf}
theorem zO {b:Prop} (c:b) (h:bI P ops S K r a' w) (hg:o.guard=none:=by exact rfl) (d:b->∀W,S W->(execOp a.eval o).run P W= .ok (.value v) W:=by intro c W e;have g:=c W e;go_simp<;>rfl) (f:a.put o.dst v=a':=by(try simp only[yQ,yU,yX,yY])<;>exact rfl):bI P ops S K ((false,k,o)::r) a w:=lP hg (d c) (f▸h)
theorem zU (h:bI P ops S K r a' w) (hg:o.guard=none:=by exact rfl) (b:∀W,S W->(execOp a.eval o).run P W= .ok (.value v) W:=by intro W d;go_simp<;>rfl) (c:a.put o.dst v=a':=by(try simp only[yQ,yU,yX,yY])<;>exact rfl):bI P ops S K ((false,k,o)::r) a w:=lP hg b (c▸h)
theorem zX {b:Prop} (c:b) (h:bI P ops S K r a' w) (hg:Region.wanted o (yielded ops a.tmps)=true:=by exact rfl) (d:b->∀W,S W->(execOp a.eval o).run P W= .ok (.value v) W:=by intro c W e;have g:=c W e;go_simp<;>rfl) (f:a.put o.dst v=a':=by(try simp only[yQ,yU,yX,yY])<;>exact rfl):bI P ops S K ((false,k,o)::r) a w:=vm hg (d c) (f▸h)
theorem zY (h:bI P ops S K r a' w) (hg:Region.wanted o (yielded ops a.tmps)=true:=by exact rfl) (b:∀W,S W->(execOp a.eval o).run P W= .ok (.value v) W:=by intro W d;go_simp<;>rfl) (c:a.put o.dst v=a':=by(try simp only[yQ,yU,yX,yY])<;>exact rfl):bI P ops S K ((false,k,o)::r) a w:=vm hg b (c▸h)
theorem zZ {f:FuncId} {args:Array Value} (hc:Calls P f args w (λe b=>∃v,e= .returned v/\S b/\bI P ops S K r (a.put o.dst v) b)) (hg:Region.wanted o (yielded ops a.tmps)=true:=by exact rfl) (c:∀W,(execOp a.eval o).run P W= .ok (.enter f args) W:=by intro W;go_simp<;>exact⟨rfl,rfl⟩):bI P ops S K ((true,k,o)::r) a w:=nG hg c hc
theorem jO {d:Option Nat} (h:bI P ops S K r a' w) (b:a.put d v=a':=by(try simp only[yQ,yU,yX,yY])<;>exact rfl):bI P ops S K r (a.put d v) w:=b▸h
theorem zV (hg:o.guard=none) (b:∀W,S W->(execOp a.eval o).run P W= .ok (.value v) W) (h:bI P ops S K r a' w) (c:a.put o.dst v=a':=by(try simp only[yQ,yU,yX,yY])<;>exact rfl):bI P ops S K ((false,k,o)::r) a w:=lP hg b (c▸h)
theorem zW (hg:Region.wanted o (yielded ops a.tmps)=true) (b:∀W,S W->(execOp a.eval o).run P W= .ok (.value v) W) (h:bI P ops S K r a' w) (c:a.put o.dst v=a':=by(try simp only[yQ,yU,yX,yY])<;>exact rfl):bI P ops S K ((false,k,o)::r) a w:=vm hg b (c▸h)
theorem zJ (hg:Region.wanted o (yielded ops a.tmps)=false) (h:bI P ops S K r a' w) (b:a.put o.dst undef=a':=by(try simp only[yQ,yU,yX,yY])<;>exact rfl):bI P ops S K ((false,k,o)::r) a w:=jn hg (b▸h)
theorem zQ (hg:Region.wanted o (yielded ops a.tmps)=true) {w':World} (b:(execOp a.eval o).run P w= .ok (.value v) w') (c:S w') (h:bI P ops S K r a' w') (d:a.put o.dst v=a':=by(try simp only[yQ,yU,yX,yY])<;>exact rfl):bI P ops S K ((true,k,o)::r) a w:=fl hg b c (d▸h)
theorem yV (hg:Region.wanted o (yielded ops a.tmps)=false) (b:S w) (h:bI P ops S K r a' w) (c:a.put o.dst undef=a':=by(try simp only[yQ,yU,yX,yY])<;>exact rfl):bI P ops S K ((true,k,o)::r) a w:=iz hg b (c▸h)
end
def ow (c:List Oper) (b:Bool):List Nat->List (Bool×Nat×Oper)
 |[]=>[]
 |k::r=>match k with
  |0=>ow c (!b) r
  |k+1=>match c[k]? with
   |some o=>(b,k,o)::ow c b r
   |none=>[]
def vS:Bool->List Nat->List (Bool×Nat)
 |_,[]=>[]
 |b,0::r=>vS (!b) r
 |b,(k+1)::r=>(b,k)::vS b r
theorem tn (c:List Oper):∀(r:List Nat) (b:Bool),ow c b r=aH c (vS b r)
 |[],_=>rfl
 |0::r,b=>by simp only[ow,vS];exact tn c r _
 |(k+1)::r,b=>by
  simp only[ow,vS,aH];cases c[k]? with
  |none=>rfl
  |some o=>simp only[];rw[tn c r b]
theorem yO {P:TQ} (S:wR->Prop) {id:Nat} {Q:Exit->Act->wR->Prop} {a:Act} {w:wR} {b:List Oper} {d:List (Bool×Nat×Oper)} (c:List Nat) (e:S w.drew) (h:bI P b.toArray S (λa' W=>y7 P b.toArray Q [] a' W) d a w.drew)
 (f:P.follows .mixedOrders=true:=by kernel_rfl) (hB:(Region.noSelect b.toArray&&decide ((vS false c).length=b.toArray.size)&&qg .any b.toArray (vS false c) (Array.replicate b.toArray.size false))=true:=by kernel_rfl)
 (g:ow b false c=d:=by simp only[ow,List.getElem?_cons_zero,List.getElem?_cons_succ,Bool.not_false,Bool.not_true];exact rfl):(Code.region id b.toArray true).wp P Q a w:=by
 subst g;exact G8 (vS R c) f hB e (by rw[<-tn];exact h)
def TL:Nat->List Nat
 |0=>[]
 |n+1=>TL n++[n+1]
end
end Go.Proofs.YtmnlkganmgcpbaaGreatDoor
