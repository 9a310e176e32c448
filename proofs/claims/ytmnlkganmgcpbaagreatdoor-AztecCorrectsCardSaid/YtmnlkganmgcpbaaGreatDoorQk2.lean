import Derived.Shelf.Small.Bits
import Derived.Shelf.Strings.Prefix
import Derived.Shelf.Strings.Explode
import Derived.Test.YtmnlkganmgcpbaaGreatDoorProg
import Derived.WalkSpells
import Derived.Deep.QuietTactic
import Derived.BigQuiet
import Derived.OwnWalk
import Derived.Laws.OwnMore
import Derived.Deep.AppendLies
import Derived.Maps.AppendAt
import Derived.Test.YtmnlkganmgcpbaaGreatDoorRows
import Derived.StillTail
import Derived.Test.YtmnlkganmgcpbaaGreatDoorQk1
set_option maxRecDepth 100000
set_option maxHeartbeats 4000000
set_option linter.unusedVariables false
set_option linter.unusedSectionVars false
set_option linter.unusedSimpArgs false
namespace Go.Proofs
section
open Go.Shelf
def Tryz.lays128_ren:Go.Shelf.Ren:=⟨λ|128=>229|n=>n,λ|51=>244|3=>3|4=>4|46=>138|5=>5|9=>9|n=>n,λ|n=>n⟩
theorem Tryz.lays128:Go.Proofs.Lays.n128 Tryz.prog Tryz.lays128_ren:={
 mixed:=by kernel_rfl
 f128:=Tryz.func229.trans (congrArg some (by kernel_rfl))
 t3:=Tryz.underlying3
 a3:=Tryz.isAgg3
 z3:=Tryz.sizeOf3
 v3:=Tryz.zeroValue3
 t4:=Tryz.underlying4
 a4:=Tryz.isAgg4
 z4:=Tryz.sizeOf4
 v4:=Tryz.zeroValue4
 t5:=Tryz.underlying5
 a5:=Tryz.isAgg5
 z5:=Tryz.sizeOf5
 v5:=Tryz.zeroValue5
 t9:=Tryz.underlying9
 a9:=Tryz.isAgg9
 z9:=Tryz.sizeOf9
 v9:=Tryz.zeroValue9
 t46:=Tryz.underlying138
 a46:=Tryz.isAgg138
 z46:=Tryz.sizeOf138
 v46:=Tryz.zeroValue138
 t51:=Tryz.underlying244
 a51:=Tryz.isAgg244
 z51:=Tryz.sizeOf244
 v51:=Tryz.zeroValue244}
theorem Tryz.bits_Len32 (x:Int) (w:World) (a:0<=x) (b:x<=4294967295):
 Calls Tryz.prog 229 #[.int .u32 x] w λe w'=>e= .returned (.int .i64 (Lib.bitLen x.toNat))/\w'=w:=Any.bits_Len32 Tryz.lays128 x w a b
def Tryz.lays125_ren:Go.Shelf.Ren:=⟨λ|125=>219|128=>229|129=>230|n=>n,λ|46=>138|3=>3|51=>244|53=>246|4=>4|5=>5|9=>9|n=>n,λ|n=>n⟩
theorem Tryz.lays125:Go.Proofs.Lays.n125 Tryz.prog Tryz.lays125_ren:={
 mixed:=by kernel_rfl
 f125:=Tryz.func219.trans (congrArg some (by kernel_rfl))
 f128:=Tryz.func229.trans (congrArg some (by kernel_rfl))
 f129:=Tryz.func230.trans (congrArg some (by kernel_rfl))
 t3:=Tryz.underlying3
 a3:=Tryz.isAgg3
 z3:=Tryz.sizeOf3
 v3:=Tryz.zeroValue3
 t4:=Tryz.underlying4
 a4:=Tryz.isAgg4
 z4:=Tryz.sizeOf4
 v4:=Tryz.zeroValue4
 t5:=Tryz.underlying5
 a5:=Tryz.isAgg5
 z5:=Tryz.sizeOf5
 v5:=Tryz.zeroValue5
 t9:=Tryz.underlying9
 a9:=Tryz.isAgg9
 z9:=Tryz.sizeOf9
 v9:=Tryz.zeroValue9
 t46:=Tryz.underlying138
 a46:=Tryz.isAgg138
 z46:=Tryz.sizeOf138
 v46:=Tryz.zeroValue138
 t51:=Tryz.underlying244
 a51:=Tryz.isAgg244
 z51:=Tryz.sizeOf244
 v51:=Tryz.zeroValue244
 t53:=Tryz.underlying246
 a53:=Tryz.isAgg246
 z53:=Tryz.sizeOf246
 v53:=Tryz.zeroValue246}
theorem Tryz.bits_Len (x:Int) (w:World) (a:0<=x) (b:x<=18446744073709551615):
 Calls Tryz.prog 219 #[.int .u64 x] w λe w'=>e= .returned (.int .i64 (Lib.bitLen x.toNat))/\w'=w:=Any.bits_Len Tryz.lays125 x w a b
def Tryz.lays129_ren:Go.Shelf.Ren:=⟨λ|129=>230|n=>n,λ|53=>246|3=>3|4=>4|46=>138|5=>5|9=>9|n=>n,λ|n=>n⟩
theorem Tryz.lays129:Go.Proofs.Lays.n129 Tryz.prog Tryz.lays129_ren:={
 mixed:=by kernel_rfl
 f129:=Tryz.func230.trans (congrArg some (by kernel_rfl))
 t3:=Tryz.underlying3
 a3:=Tryz.isAgg3
 z3:=Tryz.sizeOf3
 v3:=Tryz.zeroValue3
 t4:=Tryz.underlying4
 a4:=Tryz.isAgg4
 z4:=Tryz.sizeOf4
 v4:=Tryz.zeroValue4
 t5:=Tryz.underlying5
 a5:=Tryz.isAgg5
 z5:=Tryz.sizeOf5
 v5:=Tryz.zeroValue5
 t9:=Tryz.underlying9
 a9:=Tryz.isAgg9
 z9:=Tryz.sizeOf9
 v9:=Tryz.zeroValue9
 t46:=Tryz.underlying138
 a46:=Tryz.isAgg138
 z46:=Tryz.sizeOf138
 v46:=Tryz.zeroValue138
 t53:=Tryz.underlying246
 a53:=Tryz.isAgg246
 z53:=Tryz.sizeOf246
 v53:=Tryz.zeroValue246}
theorem Tryz.bits_Len64 (x:Int) (w:World) (a:0<=x) (b:x<=18446744073709551615):
 Calls Tryz.prog 230 #[.int .u64 x] w λe w'=>e= .returned (.int .i64 (Lib.bitLen x.toNat))/\w'=w:=Any.bits_Len64 Tryz.lays129 x w a b
def Tryz.lays99_ren:Go.Shelf.Ren:=⟨λ|99=>215|206=>227|n=>n,λ|9=>9|4=>4|3=>3|n=>n,λ|n=>n⟩
theorem Tryz.lays99:Go.Proofs.Lays.n99 Tryz.prog Tryz.lays99_ren:={
 mixed:=by kernel_rfl
 f99:=Tryz.func215.trans (congrArg some (by kernel_rfl))
 f206:=Tryz.func227.trans (congrArg some (by kernel_rfl))
 t3:=Tryz.underlying3
 a3:=Tryz.isAgg3
 z3:=Tryz.sizeOf3
 v3:=Tryz.zeroValue3
 t4:=Tryz.underlying4
 a4:=Tryz.isAgg4
 z4:=Tryz.sizeOf4
 v4:=Tryz.zeroValue4
 t9:=Tryz.underlying9
 a9:=Tryz.isAgg9
 z9:=Tryz.sizeOf9
 v9:=Tryz.zeroValue9}
open Go.RowKit Go.Lib in
theorem Tryz.strings_HasPrefix (s p:ByteArray) (w:World):
 Calls Tryz.prog 215 #[.string s,.string p] w λe w'=>e= .returned (.bool (Lib.hasPrefix s.data.toList p.data.toList))/\w'=w:=Any.strings_HasPrefix Tryz.lays99 s p w
def Tryz.lays146_ren:Go.Shelf.Ren:=⟨λ|146=>178|221=>214|268=>224|138=>225|143=>226|195=>231|197=>232|218=>233|219=>234|260=>235|217=>236|225=>237|224=>238|267=>239|266=>240|314=>241|n=>n,λ|9=>9|31=>214|3=>3|4=>4|0=>0|105=>248|21=>21|5=>5|46=>138|119=>251|139=>254|138=>253|146=>255|51=>244|n=>n,λ|1=>0|3=>1|4=>2|n=>n⟩
theorem Tryz.lays146:Go.Proofs.Lays.n146 Tryz.prog Tryz.lays146_ren:={
 mixed:=by kernel_rfl
 f138:=Tryz.func225.trans (congrArg some (by kernel_rfl))
 f143:=Tryz.func226.trans (congrArg some (by kernel_rfl))
 f146:=Tryz.func178.trans (congrArg some (by kernel_rfl))
 f195:=Tryz.func231.trans (congrArg some (by kernel_rfl))
 f197:=Tryz.func232.trans (congrArg some (by kernel_rfl))
 f217:=Tryz.func236.trans (congrArg some (by kernel_rfl))
 f218:=Tryz.func233.trans (congrArg some (by kernel_rfl))
 f219:=Tryz.func234.trans (congrArg some (by kernel_rfl))
 f221:=Tryz.func214.trans (congrArg some (by kernel_rfl))
 f224:=Tryz.func238.trans (congrArg some (by kernel_rfl))
 f225:=Tryz.func237.trans (congrArg some (by kernel_rfl))
 f260:=Tryz.func235.trans (congrArg some (by kernel_rfl))
 f266:=Tryz.func240.trans (congrArg some (by kernel_rfl))
 f267:=Tryz.func239.trans (congrArg some (by kernel_rfl))
 f268:=Tryz.func224.trans (congrArg some (by kernel_rfl))
 f314:=Tryz.func241.trans (congrArg some (by kernel_rfl))
 t0:=Tryz.underlying0
 a0:=Tryz.isAgg0
 z0:=Tryz.sizeOf0
 v0:=Tryz.zeroValue0
 t3:=Tryz.underlying3
 a3:=Tryz.isAgg3
 z3:=Tryz.sizeOf3
 v3:=Tryz.zeroValue3
 t4:=Tryz.underlying4
 a4:=Tryz.isAgg4
 z4:=Tryz.sizeOf4
 v4:=Tryz.zeroValue4
 t5:=Tryz.underlying5
 a5:=Tryz.isAgg5
 z5:=Tryz.sizeOf5
 v5:=Tryz.zeroValue5
 t9:=Tryz.underlying9
 a9:=Tryz.isAgg9
 z9:=Tryz.sizeOf9
 v9:=Tryz.zeroValue9
 t21:=Tryz.underlying21
 a21:=Tryz.isAgg21
 z21:=Tryz.sizeOf21
 v21:=Tryz.zeroValue21
 t31:=Tryz.underlying214
 a31:=Tryz.isAgg214
 z31:=Tryz.sizeOf214
 v31:=Tryz.zeroValue214
 t46:=Tryz.underlying138
 a46:=Tryz.isAgg138
 z46:=Tryz.sizeOf138
 v46:=Tryz.zeroValue138
 t51:=Tryz.underlying244
 a51:=Tryz.isAgg244
 z51:=Tryz.sizeOf244
 v51:=Tryz.zeroValue244
 t105:=Tryz.underlying248
 a105:=Tryz.isAgg248
 z105:=Tryz.sizeOf248
 v105:=Tryz.zeroValue248
 t119:=Tryz.underlying251
 a119:=Tryz.isAgg251
 z119:=Tryz.sizeOf251
 t138:=Tryz.underlying253
 a138:=Tryz.isAgg253
 z138:=Tryz.sizeOf253
 v138:=Tryz.zeroValue253
 t139:=Tryz.underlying254
 a139:=Tryz.isAgg254
 z139:=Tryz.sizeOf254
 v139:=Tryz.zeroValue254
 t146:=Tryz.underlying255
 a146:=Tryz.isAgg255
 z146:=Tryz.sizeOf255
 v146:=Tryz.zeroValue255
 g1:=by kernel_rfl
 g3:=by kernel_rfl
 g4:=by kernel_rfl}
open Go.RowKit Go.Lib in
theorem Tryz.strings_Split_chars (s sep:ByteArray) (w:World) (h0:sep.size=0) (hs:s.size<4294967281) (hascii:∀(j:Nat) b,s.data.toList[j]?=some b->b.toNat<128):
 Calls Tryz.prog 178 #[.string s,.string sep] w λe w'=>
  e= .returned (.slice (some ⟨(w.iter s s.size).heap.size,0,none⟩) s.size s.size)/\w'=(w.iter s s.size).alloc (.cells ((Lib.charsB s).map Value.string).toArray 9):=Any.strings_Split_chars Tryz.lays146 (by kernel_rfl) s sep w h0 hs hascii
end
end Go.Proofs
namespace Go.Proofs.YtmnlkganmgcpbaaGreatDoor
section
open Go.RowKit
theorem aF (z:Int) (a:-1000000000000<=z) (b:z<=1000000000000):IntKind.i64.wrap z=z:=by
 rw[IntKind.wrap_i64];omega
abbrev af (w:World):World->Prop:=Below w.heap.size w
theorem ae {w W a:World} (h:Below w.heap.size w W) (hb:Below W.heap.size W a):Below w.heap.size w a:=h.trans (hb.mono h.size)
theorem ah {w W:World} (h:Below w.heap.size w W) (a:Obj):Below w.heap.size w (W.alloc a):=h.alloc h.size a
theorem ai {w W:World} (h:Below w.heap.size w W):Below w.heap.size w W.drew:=h.drew
theorem ax (W:World) (a:Obj):Below W.heap.size W (W.alloc a):=(Below.refl _ _).alloc (Nat.le_refl _) _
theorem cH {w b:World} {a:Obj} (hb:Below (w.alloc a).heap.size (w.alloc a) b):Below w.heap.size w b:=((Below.refl _ _).alloc (Nat.le_refl _) _).trans (hb.mono oS)
theorem aJ (a:Addr) (n:Nat):(a.add n).block=a.block:=by unfold Addr.add;split<;>rfl
theorem Fm (a:Addr) (i j:Nat):(a.add i).add j=a.add (i+j):=by
 unfold Addr.add;by_cases b:i=0<;>by_cases c:j=0<;>simp[b,c,Nat.add_assoc]
theorem add_plain (b a i:Nat):(⟨b,a,none⟩:Addr).add i=⟨b,a+i,none⟩:=by unfold Addr.add;split<;>simp_all
def ak (W:World) (b:Nat) (a:List Value):Prop:=b<W.heap.size/\∀i,i<a.length->W.cell? ⟨b,i,none⟩=some (a.getD i undef)
theorem ak.below {W a:World} {b:Nat} {c:List Value} (h:ak W b c) (hb:Below W.heap.size W a):ak a b c:=
 ⟨Nat.lt_of_lt_of_le h.1 hb.size,λi e=>(hb.cell h.1).trans (h.2 i e)⟩
theorem ak.alloc {W:World} {b:Nat} {c:List Value} (h:ak W b c) (a:Obj):ak (W.alloc a) b c:=
 h.below ((Below.refl _ _).alloc (Nat.le_refl _) a)
theorem ak.drew {W:World} {b:Nat} {a:List Value} (h:ak W b a):ak W.drew b a:=h
theorem ak.new (W:World) (xs:Array Value) (c:TypeId) (b:Nat) (hb:b=W.heap.size):ak (W.alloc (.cells xs c)) b xs.toList:=by
 refine⟨by simp;omega,λi a=>?_⟩;rw[World.cell?_alloc_at _ _ _ _ hb];simp at a;simp[Array.getElem?_eq_getElem a]
theorem ak.other {W:World} {b:Nat} {l:List Value} (h:ak W b l) (p:Addr) (u:Value) (a:b≠p.block):ak (W.setCell p u) b l:=by
 refine⟨by simpa using h.1,λj c=>?_⟩;rw[World.cell?_setCell_other W _ _ _ (λe=>a (by rw[e]))];exact h.2 j c
theorem ar {w:World} {g:Nat} {a:Obj} (h:w.heap[g]?=some a):g<w.heap.size:=(Array.getElem?_eq_some_iff.1 h).1
section
variable {α : Type} (f : α → Value) (d : α)
def RG (w:World) (A:Option Addr) (xs:List α):Prop:=
 0<xs.length->∃a,A=some a/\a.block<w.heap.size/\∀j,j<xs.length->w.cell? (a.add j)=some (f (xs.getD j d))
def SG (w:World) (v:Value) (xs:List α):Prop:=∃A c,v= .slice A xs.length c/\xs.length<=c/\c<=maxLen/\RG f d w A xs
structure SR (w:World) (A:Option Addr) (n c:Nat) (xs:List α):Prop where
 hn:n=xs.length
 hc:n<=c
 hm:c<=maxLen
 rd:RG f d w A xs
variable {f d}
theorem RG.below {W a:World} {A:Option Addr} {xs:List α} (h:RG f d W A xs) (hb:Below W.heap.size W a):RG f d a A xs:=λhn=>by
 obtain⟨b,e,hl,hc⟩:=h hn;exact⟨b,e,Nat.lt_of_lt_of_le hl hb.size,λj c=>(hb.cell (by rw[aJ];exact hl)).trans (hc j c)⟩
theorem RG.dI (W:World) (A:Option Addr):RG f d W A []:=λh=>absurd h oS
theorem RG.cd {W:World} {base:Nat} {e:TypeId} {n:Nat} {A:Option Addr} {c:Nat} {xs:List α} (h:W.ownsRow base e 1 (.slice A n c) n (xs.map f)):RG f d W A xs:=λhn=>by
 have hl:xs.length=n:=by have:=h.1;simpa using this
 obtain⟨g,cap,a,_,k⟩:=h.form oO;have b:A=some ⟨g,0,none⟩:=by injection a
 subst b;refine⟨_,rfl,k,λj i=>h.cells (g:=g) rfl j _ ?_⟩;simp[List.getD,i]
theorem SG.dI (w:World):SG f d w (.slice none 0 0) []:=⟨none,0,rfl,by simp,by simp,RG.dI _ _⟩
theorem SG.cd {W:World} {base:Nat} {e:TypeId} {n:Nat} {v:Value} {xs:List α} (h:W.ownsRow base e 1 v n (xs.map f)):SG f d W v xs:=by
 have hl:xs.length=n:=by have:=h.1;simpa using this
 rcases h.2 with⟨rfl,rfl⟩|⟨g,cap,a,rfl,_,_,b,lH,_⟩
 ·have:xs=[]:=List.eq_nil_of_length_eq_zero hl;subst this;exact SG.dI _
 ·refine⟨_,cap,by rw[hl],by omega,lH,RG.cd h⟩
theorem SG.parts {w:World} {v:Value} {xs:List α} (h:SG f d w v xs):∃A n c,v= .slice A n c/\SR f d w A n c xs:=by
 obtain⟨A,c,rfl,a,b,e⟩:=h;exact⟨A,_,c,rfl,rfl,a,b,e⟩
theorem SR.sg {w:World} {A:Option Addr} {n c:Nat} {xs:List α} (h:SR f d w A n c xs):SG f d w (.slice A n c) xs:=by
 obtain⟨rfl,a,b,e⟩:=h;exact⟨A,c,rfl,a,b,e⟩
theorem SR.below {W a:World} {A:Option Addr} {n c:Nat} {xs:List α} (h:SR f d W A n c xs) (hb:Below W.heap.size W a):SR f d a A n c xs:=⟨h.hn,h.hc,h.hm,h.rd.below hb⟩
theorem RG.one (W:World) (x:α) (a:TypeId) (b:Nat) (hb:b=W.heap.size):RG f d (W.alloc (.cells #[f x] a)) (some ⟨b,0,none⟩) [x]:=λ_=>by
 refine⟨_,rfl,by simp;omega,λj c=>?_⟩;obtain rfl:j=0:=by simp at c;omega
 have:=(ak.new W #[f x] a b hb).2 0 oS;rw[add_plain];exact this
theorem SR.lit (W:World) (xs:List α) (a:TypeId) (b n:Nat) (hb:b=W.heap.size) (hn:n=xs.length) (e:n<=maxLen):SR f d (W.alloc (.cells (xs.map f).toArray a)) (some ⟨b,0,none⟩) n n xs:=by
 refine⟨hn,Nat.le_refl _,e,λ_=>⟨_,rfl,by simp;omega,λj c=>?_⟩⟩;have:=(ak.new W (xs.map f).toArray a b hb).2 j (by simpa using c);rw[add_plain,Nat.zero_add,this];simp[List.getD,c]
structure OG (f:α->Value) (e:TypeId) (w wr:World) (v:Value) (l:List α):Prop where
 B:af w wr
 O:wr.ownsRow w.heap.size e 1 v l.length (l.map f)
theorem au {W b:World} {base:Nat} {e:TypeId} {sz:Nat} {v:Value} {n:Nat} {xs:List Value} (h:W.ownsRow base e sz v n xs) (hb:Below W.heap.size W b):b.ownsRow base e sz v n xs:=by
 refine⟨h.1,?_⟩;rcases h.2 with a|⟨g,cap,k,i,a,c,j⟩
 ·exact .inl a
 ·exact .inr ⟨g,cap,k,i,a,(hb.block _ (ar c)).trans c,j⟩
theorem fa {W:World} {base:Nat} {e:TypeId} {sz:Nat} {v:Value} {n:Nat} {xs:List Value} (h:W.ownsRow base e sz v n xs) (a:Obj):(W.alloc a).ownsRow base e sz v n xs:=au h (ax _ _)
theorem OG.below {e:TypeId} {w wr W:World} {v:Value} {l:List α} (h:OG f e w wr v l) (hb:Below wr.heap.size wr W):OG f e w W v l:=⟨ae h.B hb,au h.O hb⟩
theorem OG.start (e:TypeId) (w:World):OG f e w w (.slice none 0 0) []:=⟨Below.refl _ _,World.ownsRow_nil _ _ _ _⟩
theorem OG.grow {e:TypeId} {w wr W a:World} {v v1:Value} {l ys:List α} (h:OG f e w wr v l) (b:Below wr.heap.size wr W) (g:a.ownsRow w.heap.size e 1 v1 (l.length+ys.length) ((l++ys).map f)) (hg:W.grownBy a v.ownBlock):OG f e w a v1 (l++ys):=by
 refine⟨(ae h.B b).grown hg (by have:=(ae h.B b).size;exact this) (λk c=>(h.O.lt k c).1),?_⟩;rw[List.length_append];exact g
theorem OG.sg {e:TypeId} {w wr:World} {v:Value} {l:List α} (h:OG f e w wr v l):SG f d wr v l:=SG.cd h.O
end
section
variable {P : Program} {α : Type} {f : α → Value} {d : α}
theorem yK (w:World) (base:Nat) (a k e:TypeId) (i:TypeInfo) (b:P.underlying a=some (.slice e)) (j:P.info? e=some i)
 (v:Value) (n sz:Nat) (xs:List Value) (o:i.size=sz) (m:w.ownsRow base e sz v n xs) (c:Nat):(Builtin.append_ #[a,a] k #[v,.slice none 0 c]).run P w= .ok v w:=by
 rcases m.2 with⟨rfl,rfl⟩|⟨g,cap,p,rfl,_,_,l,_⟩
 ·simp[Builtin.append_,run_underlying b,sizeOf,typeInfo,j,Builtin.lenOf,Builtin.firstCells]
 ·simp[Builtin.append_,run_underlying b,sizeOf,typeInfo,j,Builtin.lenOf,Builtin.firstCells,l,storeCells]
theorem Bk (E:∀x,(f x).oneCell'=true) (w:World) (base:Nat) (a k e:TypeId) (i:TypeInfo) (z:Value) (p:Nat) (r:P.underlying a=some (.slice e)) (s:P.info? e=some i) (F:i.zero=some z)
 (D:i.size=1) (L:i.bytes=p) (M:z.cells.size=1)
 (v:Value) (n:Nat) (xs:List α) (q:w.ownsRow base e 1 v n (xs.map f))
 (A:Option Addr) (m c:Nat) (ys:List α) (G:m=ys.length) (t:RG f d w A ys)
 (N:n+m<=maxLen) (O:(n+m)* p<=140737488355328) (S:base<=w.heap.size):
 ∃g w',(Builtin.append_ #[a,a] k #[v,.slice A m c]).run P w= .ok g w'/\w'.ownsRow base e 1 g (n+m) ((xs++ys).map f)/\w.grownBy w' v.ownBlock:=by
 subst G;rcases A with _|l
 ·have H:ys.length=0:=by
   rcases Nat.eq_zero_or_pos ys.length with B|B
   ·exact B
   ·obtain⟨l,o,_⟩:=t oO;cases o
  have J:ys=[]:=List.eq_nil_of_length_eq_zero H;subst J;exact⟨v,w,yK w base a k e i r s v n 1 _ D q c,by simpa using q,World.grownBy.refl w _⟩
 ·have T:∀j u,(ys.map f)[j]?=some u->w.cell? (l.add j)=some u:=by
   intro j u b;have C:j<ys.length:=by
    rcases Nat.lt_or_ge j ys.length with h|h
    ·exact h
    ·rw[List.getElem?_eq_none (by simpa using h)]at b;cases b
   obtain⟨U,h,_,hc⟩:=t oO;injection h with h;subst h;rw[hc j C];simpa[List.getD,C]using b
  obtain⟨g,w',Q,o,K,_,_⟩:=run_append_own_at (P:=P) w base a k e i z 1 p r s F D L M oO v n _ q l ys.length c (ys.map f) oS T
   (λu b=>by obtain⟨y,_,rfl⟩:=List.mem_map.1 b;exact E y) N O S
  exact⟨g,w',Q,by rw[List.map_append];exact o,K⟩
theorem aV (p:∀x,(f x).oneCell'=true) {w:World} {l:Array Oper} {o:List Oper} {b:Oper} {a:Act} {Q:Exit->Act->World->Prop} (G:b.guard=none) (s x:Operand) (g:TypeId)
 (q:b.op= .call {callee:= .builtin .append,args:=#[s,x],argTypes:=#[g,g]})
 (base:Nat) (e:TypeId) (i:TypeInfo) (z:Value) (k:Nat) (r:P.underlying g=some (.slice e)) (t:P.info? e=some i) (u:i.zero=some z)
 (S:i.size=1) (H:i.bytes=k) (J:z.cells.size=1)
 (v:Value) (n:Nat) (xs:List α) (hs:a.eval s=v) (N:w.ownsRow base e 1 v n (xs.map f))
 (A:Option Addr) (m c:Nat) (ys:List α) (y:a.eval x= .slice A m c) (B:m=ys.length) (C:RG f d w A ys)
 (L:n+m<=maxLen) (M:(n+m)* k<=140737488355328) (T:base<=w.heap.size)
 (h:∀j w',w'.ownsRow base e 1 j (n+m) ((xs++ys).map f)->w.grownBy w' v.ownBlock->wpList P l Q o (a.put b.dst j) w'):
 wpList P l Q (b::o) a w:=by
 refine wpList_plain G λK D=>?_;obtain⟨j,w',O,E,F⟩:=Bk (P:=P) (d:=d) p w base g b.type e i z k r t u S H J v n xs N A m c ys B C L M T;unfold Oper.wp execOp;simp only[q,resolve,invoke,builtin,Sem.run_bind,Sem.run_pure,Result.andThen_ok,List.map_toArray,List.map_cons,List.map_nil,hs,y,O];exact D _ _ (h j w' E F)
end
abbrev vB:Bool->Value:=Value.bool
abbrev vI:Int->Value:=Value.int .i64
abbrev vU:UInt8->Value:=λx=>Value.int .u8 (x.toNat:Int)
theorem wh (x:Bool):(vB x).oneCell'=true:=rfl
theorem JL (x:Int):(vI x).oneCell'=true:=rfl
theorem NX (x:UInt8):(vU x).oneCell'=true:=rfl
theorem CD (x:ByteArray):(Value.string x).oneCell'=true:=rfl
theorem gZ:(Tryz.prog.info? 4).map (λi=>(i.zero,i.size,i.bytes))=some (some (.bool false),1,1):=oK
theorem dg:(Tryz.prog.info? 3).map (λi=>(i.zero,i.size,i.bytes))=some (some (.int .i64 0),1,8):=oK
theorem Lp:(Tryz.prog.info? 9).map (λi=>(i.zero,i.size,i.bytes))=some (some (.string ByteArray.empty),1,16):=oK
section
variable {P : Program} {ops : Array Oper} {md : Region.Mode} {S : World → Prop}
def givS (P:Program) (S:World->Prop) (v:Value):Result Next->Prop
 |.ok (.value u) w'=>u=v/\S w'
 |.ok .skip w'=>v=undef/\S w'
 |.ok (.enter f args) w'=>Calls P f args w' (λe b=>e= .returned v/\S b)
 |_=>False
def iC (P:Program) (ops:Array Oper) (S:World->Prop) (o:Oper) (v:Value) (a:Act):Prop:=
 (Region.wanted o (yielded ops a.tmps)=true/\∀w,S w->givS P S v ((execOp a.eval o).run P w))\/(Region.wanted o (yielded ops a.tmps)=false/\v=undef)
theorem iC.of_same {o:Oper} {v:Value} {a a':Act} (b:iC P ops S o v a) (c:execOp a'.eval o=execOp a.eval o)
 (d:Region.wanted o (yielded ops a'.tmps)=Region.wanted o (yielded ops a.tmps)):iC P ops S o v a':=by
 unfold iC at*;rw[c,d];exact b
def pR (P:Program) (ops:Array Oper) (S:World->Prop) (i:Nat) (K:Act->Prop) (a:Act):Prop:=
 ∀o,ops[i]?=some o->∃v,iC P ops S o v a/\K (a.put o.dst v)
theorem xv {i:Nat} {a:Act} {K K':Act->Prop} (h:∀a,K a->K' a) (b:pR P ops S i K a):pR P ops S i K' a:=λo c=>by
 obtain⟨v,d,e⟩:=b o c;exact⟨v,d,h _ e⟩
theorem Aa {j:Nat} {c d:Oper} {v:Value} (k:ops[j]?=some d) (q:c.apart ops d=true)
 (s:∀e b,c.op≠ .select e b) (t:∀e b,d.op≠ .select e b) {K:Act->Prop} {a:Act}
 (l:iC P ops S c v a) (h:pR P ops S j K (a.put c.dst v)):
 pR P ops S j (λa'=>iC P ops S c v a'/\K (a'.put c.dst v)) a:=by
 obtain⟨f,m,g⟩:=Oper.apart_spec q;intro o i;obtain rfl:o=d:=Option.some.inj (i.symm.trans k);obtain⟨u,n,p⟩:=h o i;refine⟨u,n.of_same (execOp_put o t a c.dst v f).symm (wanted_put o a c.dst v f).symm,l.of_same (execOp_put c s a o.dst u g) (wanted_put c a o.dst u g),?_⟩;rw[<-Act.put_comm a v u m];exact p
theorem Aj {i:Nat} {a:Act} {w:World} {K:Act->Prop} {K':Act->World->Prop} {Q':Exit->Act->World->Prop} (l:i<ops.size) (j:S w)
 (h:∀a w,S w->K a->K' a w) (m:pR P ops S i K a):wpOp P ops Q' i K' a w:=by
 unfold wpOp;obtain⟨o,k⟩:∃o,ops[i]?=some o:=⟨_,Array.getElem?_eq_getElem l⟩;simp only[k];obtain⟨v,p,d⟩:=m o k;rcases p with⟨g,q⟩|⟨g,rfl⟩
 ·simp only[g,if_true];have b:=q w j;refine .inl ?_;unfold Oper.wp;generalize(execOp a.eval o).run P w=r at*;cases r with
  |ok n w'=>
   cases n<;>simp only[givS]at b<;>simp only[Oper.upon]
   case value u=>obtain⟨rfl,c⟩:=b;exact h _ _ c d
   case skip=>obtain⟨rfl,c⟩:=b;exact h _ _ c d
   case enter f args=>exact b.mono λe t ⟨s,c⟩=>by subst s;exact h _ _ c d
  |halt x w'=>simp only[givS]at b
 ·simp only[g,Bool.false_eq_true,if_false];exact h _ _ j d
def ld (P:Program) (md:Region.Mode) (ops:Array Oper) (S:World->Prop) (n:Nat) (L:Array Bool->Act->Prop):Nat->Array Bool->Act->Prop
 |0,listed,a=>L listed a
 |f+1,listed,a=>
  Region.ready md ops listed≠[]/\∀i∈Region.ready md ops listed,i<n/\pR P ops S i (ld P md ops S n L f (listed.setIfInBounds i true)) a
theorem mQ {i:Nat} {listed:Array Bool} (h:i∈Region.ready md ops listed):i<ops.size:=by
 unfold Region.ready at h;rw[List.mem_filter,List.mem_range]at h;exact h.1
theorem mA {n g:Nat} {L:Array Bool->Act->Prop} {Q':Exit->Act->World->Prop} (c:∀listed a w,S w->L listed a->wpAny P md ops Q' g listed a w):
 ∀(f:Nat) (listed:Array Bool) (a:Act) (w:World),S w->ld P md ops S n L f listed a->wpAny P md ops Q' (f+g) listed a w
 |0,listed,a,w,b,h=>by rw[Nat.zero_add];exact c _ _ _ b h
 |f+1,listed,a,w,b,h=>by
  rw[show f+1+g=(f+g)+1 by omega];exact⟨λe=>absurd e h.1,λi d=>Aj (mQ d) b (λa' w' k j=>mA c f _ a' w' k j) (h.2 i d).2⟩
theorem An {n i:Nat} {c:Oper} {v:Value} {L:Array Bool->Act->Prop} (y:ops[i]?=some c) (D:∀(j:Nat) (o:Oper) s b,ops[j]?=some o->o.op≠ .select s b)
 (hs:Region.sinkB md ops n=true) (hc:Region.chainB md ops n=true) (hn:n<ops.size) (B:i<n)
 (X:∀listed a,L listed a->∀j∈Region.ready md ops listed,n<=j):
 ∀(f:Nat) (listed:Array Bool) (a:Act),HeadInv md ops n listed->
  (∀j l,ops[j]?=some l->j≠i->listed.getD j true=false->(∀e∈l.after,Region.binds md e=true->e.on≠i)->c.apart ops l=true)->
  i∈Region.ready md ops listed->iC P ops S c v a->
  ld P md ops S n L f (listed.setIfInBounds i true) (a.put c.dst v)->ld P md ops S n L (f+1) listed a:=by
 have z:∀(a:Act) (K:Act->Prop),iC P ops S c v a->K (a.put c.dst v)->pR P ops S i K a:=λa K q G o J=>by
  obtain rfl:o=c:=Option.some.inj (J.symm.trans y);exact⟨v,q,G⟩
 intro f
 induction f with
 |zero=>
  intro listed a u _ d q H;have p:=(mem_ready.1 d).1;refine⟨λh=>(by rw[h]at d;cases d),λj m=>?_⟩;have w:j<n:=by
   rcases Nat.lt_or_ge j n with h|h
   ·exact h
   ·exact absurd m (tail_waits hs hc hn u _ i rfl B p j h)
  refine⟨w,?_⟩;by_cases g:j=i
  ·subst g;exact z _ _ q H
  ·have:=X _ _ H j (ready_mono m g);omega
 |succ f M=>
  intro listed a u F d q H;have p:=(mem_ready.1 d).1;refine⟨λh=>(by rw[h]at d;cases d),λj m=>?_⟩;have w:j<n:=by
   rcases Nat.lt_or_ge j n with h|h
   ·exact h
   ·exact absurd m (tail_waits hs hc hn u _ i rfl B p j h)
  refine⟨w,?_⟩;by_cases g:j=i
  ·subst g;exact z _ _ q H
  ·have t:=(H.2 j (ready_mono m g)).2;obtain⟨E,l,x,V⟩:=mem_ready.1 m;have W:∀e∈l.after,Region.binds md e=true->e.on≠i:=λe N hb heq=>by
    have t:=V e N hb;rw[heq,getD_both p]at t;cases t
   have O:=Aa x (F j l x g E W) (λs b=>D i c s b y) (λs b=>D j l s b x) q t
   have Y:∀k ok,ops[k]?=some ok->k≠i->(listed.setIfInBounds j true).getD k true=false->
    (∀e∈ok.after,Region.binds md e=true->e.on≠i)->c.apart ops ok=true:=λk ok Q T p U=>by
    refine F k ok Q T ?_ U;by_cases C:j=k
    ·subst C;exact E
    ·rw[getD_set_ne true C]at p;exact p
   refine xv (λa' A=>M (listed.setIfInBounds j true) a' (u.set m w) Y (ready_mono d (Ne.symm g)) A.1 ?_) O;rw[Array.setIfInBounds_comm _ _ g];exact A.2
def jQ (P:Program) (ops:Array Oper) (S:World->Prop) (K:Act->Prop):List Oper->Act->Prop
 |[],a=>K a
 |o::b,a=>∃v,iC P ops S o v a/\jQ P ops S K b (a.put o.dst v)
theorem uX {n g:Nat} {c:Act->Prop} (m:Region.noSelect ops=true) (hs:Region.sinkB md ops n=true) (hc:Region.chainB md ops n=true) (hn:n<ops.size):
 ∀(l:List Oper) (k:Nat) (listed:Array Bool) (a:Act),(∀j,j<l.length->l[j]?=ops[k+j]?)->k+l.length=n->HeadInv md ops n listed->
 Region.lexHead md ops g l.length k listed=true->jQ P ops S c l a->
 ld P md ops S n (λp a'=>Region.seqB md ops g n p=true/\c a') l.length listed a
 |[],k,listed,a,_,b,_,hB,h=>by
  have:k=n:=by simpa using b
  subst this;exact⟨by simpa[Region.lexHead]using hB,h⟩
 |o::l,k,listed,a,hl,b,e,hB,h=>by
  have d:ops[k]?=some o:=by simpa using(hl 0 oS).symm
  simp only[List.length_cons,Region.lexHead,Bool.and_eq_true]at hB;obtain⟨⟨q,s⟩,x⟩:=hB;have f:k<n:=by simp only[List.length_cons]at b;omega
  have i:k∈Region.ready md ops listed:=by simpa using q
  obtain⟨v,t,u⟩:=h
  exact An d (Region.noSelect_spec m) hs hc hn f (λp a' w=>seqB_ready w.1) l.length listed a e (Region.free_spec d s) i t
   (uX m hs hc hn l (k+1) _ _ (λj y=>by have:=hl (j+1) oT;simpa[Nat.add_assoc,Nat.add_comm 1 j]using this) (by simp only[List.length_cons]at b;omega) (e.set i f) x u)
theorem bY {id:Nat} {Q:Exit->Act->World->Prop} {a:Act} {w:World} {l:List Oper} (n:Nat) (f:P.follows .mixedOrders=true) (hB:Region.lexTailB .any l.toArray n=true) (i:S w.drew)
 (h:jQ P l.toArray S (λa'=>∀W,S W->wpList P l.toArray Q (l.drop n) a' W) (l.take n) a):(Code.region id l.toArray true).wp P Q a w:=by
 simp only[Region.lexTailB,Bool.and_eq_true,decide_eq_true_eq]at hB;obtain⟨⟨⟨⟨q,hn⟩,hs⟩,hc⟩,s⟩:=hB;have y:n<l.length:=by simpa using hn
 have b:(l.take n).length=n:=by simp;omega
 have e:(l.drop n).length=l.toArray.size-n:=by simp
 have t:HeadInv .any l.toArray n (Array.replicate l.toArray.size false):=
  ⟨by simp,λj x _ hl=>(by rw[getD_replicate_false]at hl;cases hl),λu _ k=>getD_in (by simpa using k) (getD_replicate_false _ _)⟩
 have H:=uX (md:= .any) (g:=l.toArray.size-n) q hs hc hn (l.take n) 0 _ a (λj c=>by
  have m:j<n:=by rw[b]at c;exact c
  simp[m]) (by simpa using b) t (by rw[b];exact s) h
 refine wp_region_any f ?_
 have:=mA (Q':=Q) (g:=l.toArray.size-n) (λlisted a' W p d=>by
  have:=wpAny_of_seq (md:= .any) (Q':=Q) (l.drop n) n listed a' W (λj=>by simp[List.getElem?_drop]) (by rw[e];exact d.1) (d.2 W p)
  rwa[e]at this) _ _ _ w.drew i H
 rw[b,show n+(l.toArray.size-n)=l.toArray.size by omega]at this;exact this
theorem dc {K:Act->Prop} {a:Act} (h:K a):jQ P ops S K [] a:=h
theorem vS {K:Act->Prop} {a:Act} {o:Oper} {c:List Oper} {v:Value} (hg:o.guard=none)
 (d:∀W,S W->(execOp a.eval o).run P W= .ok (.value v) W) (h:jQ P ops S K c (a.put o.dst v)):jQ P ops S K (o::c) a:=
 ⟨v,.inl ⟨by simp[Region.wanted,hg],λW b=>by rw[d W b];exact⟨rfl,b⟩⟩,h⟩
theorem GC {K:Act->Prop} {a:Act} {o:Oper} {b:List Oper} {v:Value} {f:FuncId} {args:Array Value} (hg:o.guard=none)
 (c:∀W,(execOp a.eval o).run P W= .ok (.enter f args) W) (hc:∀W,S W->Calls P f args W (λe d=>e= .returned v/\S d))
 (h:jQ P ops S K b (a.put o.dst v)):jQ P ops S K (o::b) a:=
 ⟨v,.inl ⟨by simp[Region.wanted,hg],λW g=>by rw[c W];exact hc W g⟩,h⟩
end
section
variable {P : Program} {ops : Array Oper} {S : World → Prop} {K : Act → Prop} {a a' : Act} {o : Oper} {r : List Oper} {v : Value}
theorem kO {b:Prop} (c:b) (h:jQ P ops S K r a') (hg:o.guard=none:=by exact rfl) (d:b->∀W,S W->(execOp a.eval o).run P W= .ok (.value v) W:=by intro c W e;have g:=c W e;go_simp<;>rfl) (f:a.put o.dst v=a':=by(try simp only[yQ,yU,yX,yY])<;>exact rfl):jQ P ops S K (o::r) a:=vS hg (d c) (f▸h)
theorem kU (h:jQ P ops S K r a') (hg:o.guard=none:=by exact rfl) (b:∀W,S W->(execOp a.eval o).run P W= .ok (.value v) W:=by intro W d;go_simp<;>rfl) (c:a.put o.dst v=a':=by(try simp only[yQ,yU,yX,yY])<;>exact rfl):jQ P ops S K (o::r) a:=vS hg b (c▸h)
theorem kX {f:FuncId} {args:Array Value} (hc:∀W,S W->Calls P f args W (λe b=>e= .returned v/\Below W.heap.size W b)) (h:jQ P ops S K r a') (hg:o.guard=none:=by exact rfl)
 (d:∀W,(execOp a.eval o).run P W= .ok (.enter f args) W:=by intro W;go_simp<;>first|exact⟨rfl,rfl⟩|exact rfl) (hb:∀W b,S W->Below W.heap.size W b->S b:=by intro W b c h;exact ae c h) (g:a.put o.dst v=a':=by(try simp only[yQ,yU,yX,yY])<;>exact rfl):jQ P ops S K (o::r) a:=GC hg d (λW c=>(hc W c).mono (λe i h=>⟨h.1,hb _ _ c h.2⟩)) (g▸h)
theorem kV (hg:o.guard=none) (b:∀W,S W->(execOp a.eval o).run P W= .ok (.value v) W) (h:jQ P ops S K r a') (c:a.put o.dst v=a':=by(try simp only[yQ,yU,yX,yY])<;>exact rfl):jQ P ops S K (o::r) a:=vS hg b (c▸h)
end
section
variable {P : Program} {ops : Array Oper} {md : Region.Mode} {S : World → Prop}
def xh (md:Region.Mode) (ops:Array Oper) (n:Nat):Bool:=
 (List.range n).all λi=>decide (i=0)||(List.range (n+1)).any λj=>decide (i<j)&&Region.waitsFor md ops j i
theorem uH {n:Nat} {listed:Array Bool} (hs:xh md ops n=true) (hc:Region.chainB md ops n=true) (hn:n<ops.size) (k:HeadInv md ops n listed):
 ∀(d i:Nat),n-i=d->1<=i->i<n->listed.getD i true=false->∀a,n<=a->a∉Region.ready md ops listed:=by
 intro d
 induction d using Nat.strongRecOn with
 |_ d u=>
  intro i D F v q a E m;obtain⟨_,o,l,t⟩:=mem_ready.1 m;have C:a<ops.size:=(Array.getElem?_eq_some_iff.1 l).1;by_cases y:a=n
  ·subst y;have b:=List.all_eq_true.1 hs i (List.mem_range.2 v);simp only[Bool.or_eq_true,decide_eq_true_eq]at b;obtain⟨j,w,r⟩:=List.any_eq_true.1 (b.resolve_left oO);simp only[Bool.and_eq_true,decide_eq_true_eq]at r;obtain⟨p,s,e,f,hb,g⟩:=Region.waitsFor_spec r.2;have G:j<=a:=by have:=List.mem_range.1 w;omega
   by_cases z:j=a
   ·subst z;have:p=o:=Option.some.inj (s.symm.trans l);subst this;have c:=t e f hb;rw[g,getD_both q]at c;cases c
   ·cases hl:listed.getD j false with
    |true=>
     have c:=k.closed j p s hl e f hb;rw[g,getD_both q]at c;cases c
    |false=>
     have A:j<listed.size:=by rw[k.size];omega
     exact u (a-j) oO j rfl oO oO (getD_in A hl) a (Nat.le_refl _) m
  ·have b:=List.all_eq_true.1 hc a (List.mem_range.2 C);simp only[Bool.or_eq_true,decide_eq_true_eq]at b;rcases b with b|b
   ·omega
   ·obtain⟨x,B,e,f,hb,g⟩:=Region.waitsFor_spec b;have:x=o:=Option.some.inj (B.symm.trans l);subst this;have c:=t e f hb;rw[g,getD_both (k.tail (a-1) oO oO)]at c;cases c
theorem yq {n i:Nat} {c:Oper} {v:Value} {L:Array Bool->Act->Prop} (x:ops[i]?=some c) (D:∀(j:Nat) (r:Oper) q b,ops[j]?=some r->r.op≠ .select q b)
 (hs:xh md ops n=true) (hc:Region.chainB md ops n=true) (hn:n<ops.size) (A:1<=i) (B:i<n)
 (X:∀listed a,L listed a->∀j∈Region.ready md ops listed,n<=j):
 ∀(f:Nat) (listed:Array Bool) (a:Act),HeadInv md ops n listed->
  (∀j l,ops[j]?=some l->j≠i->listed.getD j true=false->(∀e∈l.after,Region.binds md e=true->e.on≠i)->c.apart ops l=true)->
  i∈Region.ready md ops listed->iC P ops S c v a->
  ld P md ops S n L f (listed.setIfInBounds i true) (a.put c.dst v)->ld P md ops S n L (f+1) listed a:=by
 have y:∀(a:Act) (K:Act->Prop),iC P ops S c v a->K (a.put c.dst v)->pR P ops S i K a:=λa K p G r J=>by
  obtain rfl:r=c:=Option.some.inj (J.symm.trans x);exact⟨v,p,G⟩
 intro f
 induction f with
 |zero=>
  intro listed a t _ d p H;have o:=(mem_ready.1 d).1;refine⟨λh=>(by rw[h]at d;cases d),λj m=>?_⟩;have u:j<n:=by
   rcases Nat.lt_or_ge j n with h|h
   ·exact h
   ·exact absurd m (uH hs hc hn t _ i rfl A B o j h)
  refine⟨u,?_⟩;by_cases g:j=i
  ·subst g;exact y _ _ p H
  ·have:=X _ _ H j (ready_mono m g);omega
 |succ f M=>
  intro listed a t F d p H;have o:=(mem_ready.1 d).1;refine⟨λh=>(by rw[h]at d;cases d),λj m=>?_⟩;have u:j<n:=by
   rcases Nat.lt_or_ge j n with h|h
   ·exact h
   ·exact absurd m (uH hs hc hn t _ i rfl A B o j h)
  refine⟨u,?_⟩;by_cases g:j=i
  ·subst g;exact y _ _ p H
  ·have s:=(H.2 j (ready_mono m g)).2;obtain⟨E,l,w,V⟩:=mem_ready.1 m;have W:∀e∈l.after,Region.binds md e=true->e.on≠i:=λe N hb heq=>by
    have s:=V e N hb;rw[heq,getD_both o]at s;cases s
   have O:=Aa w (F j l w g E W) (λq b=>D i c q b x) (λq b=>D j l q b w) p s
   have Y:∀k ok,ops[k]?=some ok->k≠i->(listed.setIfInBounds j true).getD k true=false->
    (∀e∈ok.after,Region.binds md e=true->e.on≠i)->c.apart ops ok=true:=λk ok Q T o U=>by
    refine F k ok Q T ?_ U;by_cases C:j=k
    ·subst C;exact E
    ·rw[getD_set_ne true C]at o;exact o
   refine xv (λa' z=>M (listed.setIfInBounds j true) a' (t.set m u) Y (ready_mono d (Ne.symm g)) z.1 ?_) O;rw[Array.setIfInBounds_comm _ _ g];exact z.2
theorem sY {n g:Nat} {c:Act->Prop} (m:Region.noSelect ops=true) (hs:xh md ops n=true) (hc:Region.chainB md ops n=true) (hn:n<ops.size):
 ∀(l:List Oper) (k:Nat) (listed:Array Bool) (a:Act),1<=k->(∀j,j<l.length->l[j]?=ops[k+j]?)->k+l.length=n->HeadInv md ops n listed->
 Region.lexHead md ops g l.length k listed=true->jQ P ops S c l a->
 ld P md ops S n (λo a'=>Region.seqB md ops g n o=true/\c a') l.length listed a
 |[],k,listed,a,_,_,b,_,hB,h=>by
  have:k=n:=by simpa using b
  subst this;exact⟨by simpa[Region.lexHead]using hB,h⟩
 |p::l,k,listed,a,w,hl,b,e,hB,h=>by
  have d:ops[k]?=some p:=by simpa using(hl 0 oS).symm
  simp only[List.length_cons,Region.lexHead,Bool.and_eq_true]at hB;obtain⟨⟨q,r⟩,x⟩:=hB;have f:k<n:=by simp only[List.length_cons]at b;omega
  have i:k∈Region.ready md ops listed:=by simpa using q
  obtain⟨v,s,t⟩:=h
  exact yq d (Region.noSelect_spec m) hs hc hn w f (λo a' u=>seqB_ready u.1) l.length listed a e (Region.free_spec d r) i s
   (sY m hs hc hn l (k+1) _ _ oO (λj y=>by have:=hl (j+1) oT;simpa[Nat.add_assoc,Nat.add_comm 1 j]using this) (by simp only[List.length_cons]at b;omega) (e.set i f) x t)
def zF (md:Region.Mode) (ops:Array Oper) (n:Nat):Bool:=
 Region.noSelect ops&&decide (1<=n)&&decide (n<ops.size)&&xh md ops n&&Region.chainB md ops n&&Region.free md ops (Array.replicate ops.size false) 0&&(Region.ready md ops (Array.replicate ops.size false)).contains 0&&
  Region.lexHead md ops (ops.size-n) (n-1) 1 ((Array.replicate ops.size false).setIfInBounds 0 true)
theorem Bv {id:Nat} {Q:Exit->Act->World->Prop} {a:Act} {w:World} {b:Oper} {l:List Oper} {v0:Value} (n:Nat) (r:P.follows .mixedOrders=true) (hB:zF .any (b::l).toArray n=true)
 (hg:b.guard=none) (s:∀c a w,Q (.panic c) (a.put b.dst v0) w->Q (.panic c) a w) (t:∀W,(execOp a.eval b).run P W= .ok (.value v0) W) (u:S w.drew)
 (h:jQ P (b::l).toArray S (λa'=>∀W,S W->wpList P (b::l).toArray Q ((b::l).drop n) a' W) (l.take (n-1)) (a.put b.dst v0)):(Code.region id (b::l).toArray true).wp P Q a w:=by
 simp only[zF,Bool.and_eq_true,decide_eq_true_eq]at hB;obtain⟨⟨⟨⟨⟨⟨⟨p,y⟩,hn⟩,hs⟩,hc⟩,z⟩,A⟩,F⟩:=hB;have B:n<(b::l).length:=by simpa using hn
 have M:n-1<l.length:=by simp at B;omega
 have d:(l.take (n-1)).length=n-1:=by simp;omega
 have m:((b::l).drop n).length=(b::l).toArray.size-n:=by simp
 have o:(b::l).toArray[0]?=some b:=rfl;have q:0∈Region.ready .any (b::l).toArray (Array.replicate (b::l).toArray.size false):=by simpa using A
 have J:HeadInv .any (b::l).toArray n (Array.replicate (b::l).toArray.size false):=
  ⟨by simp,λj L _ hl=>(by rw[getD_replicate_false]at hl;cases hl),λK _ x=>getD_in (by simpa using x) (getD_replicate_false _ _)⟩
 have G:=J.set q y
 have H:=sY (P:=P) (S:=S) (md:= .any) (g:=(b::l).toArray.size-n) p hs hc hn (l.take (n-1)) 1 _ (a.put b.dst v0) (Nat.le_refl _) (λj f=>by
  have C:j<n-1:=by rw[d]at f;exact f
  have e:(b::l).toArray[1+j]?=l[j]?:=by rw[Nat.add_comm];simp
  rw[e]
  simp[C]) (by rw[d];omega) G (by rw[d];exact F) h
 refine wp_region_any r ?_
 have i:=mA (Q':=Q) (g:=(b::l).toArray.size-n) (λlisted a' W D k=>by
  have:=wpAny_of_seq (md:= .any) (Q':=Q) ((b::l).drop n) n listed a' W (λj=>by simp[List.getElem?_drop]) (by rw[m];exact k.1) (k.2 W D)
  rwa[m]at this) _ _ _ w.drew u H
 rw[d]at i;have E:(b::l).toArray.size=(n-1+((b::l).toArray.size-n))+1:=oO;have key:=wpAny_first (P:=P) (md:= .any) (Q:=Q) o (Region.noSelect_spec p) (v:=v0) s (n-1+((b::l).toArray.size-n)) (Array.replicate (b::l).toArray.size false) a w.drew (Region.free_spec o z) q (.inl ⟨by simp[Region.wanted,hg],t⟩) i;rw[<-E]at key;exact key
end
section
variable {P : Program} {ops : Array Oper} {md : Region.Mode} {S : World → Prop}
def givW (P:Program) (k:Value->World->Prop):Result Next->Prop
 |.ok (.value u) w'=>k u w'
 |.ok .skip w'=>k undef w'
 |.ok (.enter f args) w'=>Calls P f args w' (λe b=>∃v,e= .returned v/\k v b)
 |_=>False
theorem lJ {k c:Value->World->Prop} (h:∀v w,k v w->c v w):∀{r:Result Next},givW P k r->givW P c r
 |.ok (.value u) w',b=>h _ _ b
 |.ok .skip w',b=>h _ _ b
 |.ok (.enter f args) w',b=>Calls.mono b λe i ⟨v,d,g⟩=>⟨v,d,h _ _ g⟩
 |.halt _ _,b=>b.elim
def jj (P:Program) (ops:Array Oper) (S:World->Prop) (o:Oper) (v:Value) (a:Act):Prop:=
 (Region.wanted o (yielded ops a.tmps)=true/\∀w,S w->(execOp a.eval o).run P w= .ok (.value v) w)\/(Region.wanted o (yielded ops a.tmps)=false/\v=undef)
theorem jj.of_same {o:Oper} {v:Value} {a a':Act} (b:jj P ops S o v a) (c:execOp a'.eval o=execOp a.eval o)
 (d:Region.wanted o (yielded ops a'.tmps)=Region.wanted o (yielded ops a.tmps)):jj P ops S o v a':=by
 unfold jj at*;rw[c,d];exact b
def xH (P:Program) (ops:Array Oper) (S:World->Prop) (i:Nat) (K:Act->World->Prop) (a:Act) (w:World):Prop:=
 ∃o,ops[i]?=some o/\((Region.wanted o (yielded ops a.tmps)=true/\givW P (λv w'=>S w'/\K (a.put o.dst v) w') ((execOp a.eval o).run P w))\/
  (Region.wanted o (yielded ops a.tmps)=false/\S w/\K (a.put o.dst undef) w))
theorem vK {i:Nat} {a:Act} {w:World} {K K':Act->World->Prop} (h:∀a w,S w->K a w->K' a w) (e:xH P ops S i K a w):xH P ops S i K' a w:=by
 obtain⟨o,d,b|b⟩:=e
 ·exact⟨o,d,.inl ⟨b.1,lJ (λv w' c=>⟨c.1,h _ _ c.1 c.2⟩) b.2⟩⟩
 ·exact⟨o,d,.inr ⟨b.1,b.2.1,h _ _ b.2.1 b.2.2⟩⟩
theorem L5 {j:Nat} {c e:Oper} {v:Value} (p:ops[j]?=some e) (s:c.apart ops e=true)
 (t:∀f b,c.op≠ .select f b) (x:∀f b,e.op≠ .select f b) {K:Act->World->Prop} {a:Act} {w:World}
 (q:jj P ops S c v a) (h:xH P ops S j K (a.put c.dst v) w):
 xH P ops S j (λa' w'=>jj P ops S c v a'/\K (a'.put c.dst v) w') a w:=by
 obtain⟨g,i,l⟩:=Oper.apart_spec s;obtain⟨o,m,d⟩:=h;obtain rfl:o=e:=Option.some.inj (m.symm.trans p);have e1:execOp (a.put c.dst v).eval o=execOp a.eval o:=execOp_put o x a c.dst v g;have e2:Region.wanted o (yielded ops (a.put c.dst v).tmps)=Region.wanted o (yielded ops a.tmps):=wanted_put o a c.dst v g;rw[e1,e2]at d;have key:∀u,jj P ops S c v (a.put o.dst u):=λu=>q.of_same (execOp_put c t a o.dst u l) (wanted_put c a o.dst u l);refine⟨o,m,?_⟩;rcases d with d|d
 ·refine .inl ⟨d.1,lJ (λu w' n=>⟨n.1,key u,?_⟩) d.2⟩;rw[<-Act.put_comm a v u i];exact n.2
 ·refine .inr ⟨d.1,d.2.1,key undef,?_⟩;rw[<-Act.put_comm a v undef i];exact d.2.2
theorem Dg {i:Nat} {a:Act} {w:World} {K:Act->World->Prop} {K':Act->World->Prop} {Q':Exit->Act->World->Prop}
 (h:∀a w,K a w->K' a w) (c:xH P ops S i K a w):wpOp P ops Q' i K' a w:=by
 obtain⟨o,g,c⟩:=c;unfold wpOp;simp only[g];rcases c with⟨d,b⟩|⟨d,_,b⟩
 ·simp only[d,if_true];refine .inl ?_;unfold Oper.wp;generalize(execOp a.eval o).run P w=r at*;cases r with
  |ok n w'=>
   cases n<;>simp only[givW]at b<;>simp only[Oper.upon]
   case value u=>exact h _ _ b.2
   case skip=>exact h _ _ b.2
   case enter f args=>exact b.mono λe m ⟨v,j,_,l⟩=>by subst j;exact h _ _ l
  |halt x w'=>simp only[givW]at b
 ·simp only[d,Bool.false_eq_true,if_false];exact h _ _ b
def kC (P:Program) (md:Region.Mode) (ops:Array Oper) (S:World->Prop) (K:Act->World->Prop):Nat->Array Bool->Act->World->Prop
 |0,listed,a,w=>Region.ready md ops listed=[]/\K a w
 |f+1,listed,a,w=>Region.ready md ops listed≠[]/\∀i∈Region.ready md ops listed,xH P ops S i (kC P md ops S K f (listed.setIfInBounds i true)) a w
theorem nZ {Q':Exit->Act->World->Prop}:∀(f:Nat) (listed:Array Bool) (a:Act) (w:World),kC P md ops S (Q' .normal) f listed a w->wpAny P md ops Q' f listed a w
 |0,listed,a,w,h=>h
 |f+1,listed,a,w,h=>⟨λb=>absurd b h.1,λi c=>Dg (λa' w' d=>nZ f _ a' w' d) (h.2 i c)⟩
theorem sK {i:Nat} {c:Oper} {v:Value} {K:Act->World->Prop} (y:ops[i]?=some c) (D:∀(j:Nat) (o:Oper) q b,ops[j]?=some o->o.op≠ .select q b):
 ∀(f:Nat) (listed:Array Bool) (a:Act) (w:World),S w->
  (∀j l,ops[j]?=some l->j≠i->listed.getD j true=false->(∀e∈l.after,Region.binds md e=true->e.on≠i)->c.apart ops l=true)->
  i∈Region.ready md ops listed->jj P ops S c v a->
  kC P md ops S K f (listed.setIfInBounds i true) (a.put c.dst v) w->kC P md ops S K (f+1) listed a w:=by
 have z:∀(a:Act) (w:World) (K:Act->World->Prop),S w->jj P ops S c v a->K (a.put c.dst v) w->xH P ops S i K a w:=λa w K m p A=>by
  refine⟨c,y,?_⟩;rcases p with⟨d,u⟩|⟨d,rfl⟩
  ·refine .inl ⟨d,?_⟩;rw[u w m];exact⟨m,A⟩
  ·exact .inr ⟨d,m,A⟩
 intro f
 induction f with
 |zero=>
  intro listed a w m _ n p H;refine⟨λh=>(by rw[h]at n;cases n),λj s=>?_⟩;by_cases g:j=i
  ·subst g;exact z _ _ _ m p H
  ·have:=ready_mono s g;rw[H.1]at this;cases this
 |succ f G=>
  intro listed a w m F n p H;have t:=(mem_ready.1 n).1;refine⟨λh=>(by rw[h]at n;cases n),λj s=>?_⟩;by_cases g:j=i
  ·subst g;exact z _ _ _ m p H
  ·have d:=H.2 j (ready_mono s g);obtain⟨E,l,x,Q⟩:=mem_ready.1 s;have T:∀e∈l.after,Region.binds md e=true->e.on≠i:=λe J hb heq=>by
    have d:=Q e J hb;rw[heq,getD_both t]at d;cases d
   have u:=L5 x (F j l x g E T) (λq b=>D i c q b y) (λq b=>D j l q b x) p d
   have U:∀k ok,ops[k]?=some ok->k≠i->(listed.setIfInBounds j true).getD k true=false->
    (∀e∈ok.after,Region.binds md e=true->e.on≠i)->c.apart ops ok=true:=λk ok L M t N=>by
    refine F k ok L M ?_ N;by_cases C:j=k
    ·subst C;exact E
    ·rw[getD_set_ne true C]at t;exact t
   refine vK (λa' w' O B=>G (listed.setIfInBounds j true) a' w' O U (ready_mono n (Ne.symm g)) B.1 ?_) u;rw[Array.setIfInBounds_comm _ _ g];exact B.2
theorem tf {i:Nat} {K:Act->World->Prop} {f:Nat} {listed:Array Bool} {a:Act} {w:World} (b:Region.ready md ops listed=[i])
 (h:xH P ops S i (kC P md ops S K f (listed.setIfInBounds i true)) a w):kC P md ops S K (f+1) listed a w:=
 ⟨λd=>(by rw[d]at b;cases b),λj c=>by
  rw[b]at c;obtain rfl:j=i:=by simpa using c
  exact h⟩
def ye (P:Program) (ops:Array Oper) (S:World->Prop) (K:Act->World->Prop):List (Bool×Nat)->Act->World->Prop
 |[],a,w=>K a w
 |(true,k)::r,a,w=>xH P ops S k (ye P ops S K r) a w
 |(false,k)::r,a,w=>∃o,ops[k]?=some o/\∃v,jj P ops S o v a/\ye P ops S K r (a.put o.dst v) w
def ordB (md:Region.Mode) (ops:Array Oper):List (Bool×Nat)->Array Bool->Bool
 |[],listed=>(Region.ready md ops listed).isEmpty
 |(true,k)::r,listed=>decide (Region.ready md ops listed=[k])&&ordB md ops r (listed.setIfInBounds k true)
 |(false,k)::r,listed=>(Region.ready md ops listed).contains k&&Region.free md ops listed k&&ordB md ops r (listed.setIfInBounds k true)
theorem rm {K:Act->World->Prop} (c:Region.noSelect ops=true):∀(l:List (Bool×Nat)) (listed:Array Bool) (a:Act) (w:World),S w->ordB md ops l listed=true->ye P ops S K l a w->
 kC P md ops S K l.length listed a w
 |[],listed,a,w,b,hB,h=>⟨by simpa[ordB]using hB,h⟩
 |(true,k)::r,listed,a,w,b,hB,h=>by
  simp only[ordB,Bool.and_eq_true,decide_eq_true_eq]at hB;exact tf hB.1 (vK (λa' w' i e=>rm c r _ a' w' i hB.2 e) h)
 |(false,k)::r,listed,a,w,b,hB,h=>by
  simp only[ordB,Bool.and_eq_true]at hB;obtain⟨o,d,v,f,g⟩:=h;exact sK d (Region.noSelect_spec c) r.length listed a w b (Region.free_spec d hB.1.2) (by simpa using hB.1.1) f (rm c r _ _ w b hB.2 g)
def attachW (l:List Oper):List (Bool×Nat)->List (Bool×Nat×Oper)
 |[]=>[]
 |(b,k)::r=>match l[k]? with
  |some o=>(b,k,o)::attachW l r
  |none=>[]
def bn (P:Program) (ops:Array Oper) (S:World->Prop) (K:Act->World->Prop):List (Bool×Nat×Oper)->Act->World->Prop
 |[],a,w=>K a w
 |(true,_,o)::r,a,w=>(Region.wanted o (yielded ops a.tmps)=true/\givW P (λv w'=>S w'/\bn P ops S K r (a.put o.dst v) w') ((execOp a.eval o).run P w))\/
  (Region.wanted o (yielded ops a.tmps)=false/\S w/\bn P ops S K r (a.put o.dst undef) w)
 |(false,_,o)::r,a,w=>∃v,jj P ops S o v a/\bn P ops S K r (a.put o.dst v) w
theorem pQ {l:List Oper} {K:Act->World->Prop}:∀(e:List (Bool×Nat)) (listed:Array Bool) (a:Act) (w:World),ordB md l.toArray e listed=true->bn P l.toArray S K (attachW l e) a w->ye P l.toArray S K e a w
 |[],_,_,_,_,h=>h
 |(true,k)::r,listed,a,w,hB,h=>by
  simp only[ordB,Bool.and_eq_true,decide_eq_true_eq]at hB;have c:k<l.toArray.size:=mQ (md:=md) (listed:=listed) (by rw[hB.1];simp);have d:l[k]?=some l[k]:=List.getElem?_eq_getElem (by simpa using c);simp only[attachW,d]at h;refine⟨l[k],by simp,?_⟩;rcases h with h|h
  ·exact .inl ⟨h.1,lJ (λv w' b=>⟨b.1,pQ r _ _ _ hB.2 b.2⟩) h.2⟩
  ·exact .inr ⟨h.1,h.2.1,pQ r _ _ _ hB.2 h.2.2⟩
 |(false,k)::r,listed,a,w,hB,h=>by
  simp only[ordB,Bool.and_eq_true]at hB;have c:k<l.toArray.size:=mQ (md:=md) (listed:=listed) (by simpa using hB.1.1);have d:l[k]?=some l[k]:=List.getElem?_eq_getElem (by simpa using c);simp only[attachW,d]at h;obtain⟨v,f,b⟩:=h;exact⟨l[k],by simp,v,f,pQ r _ _ _ hB.2 b⟩
theorem Da {id:Nat} {Q:Exit->Act->World->Prop} {a:Act} {w:World} {l:List Oper} (b:List (Bool×Nat)) (c:P.follows .mixedOrders=true) (hB:(Region.noSelect l.toArray&&decide (b.length=l.toArray.size)&&ordB .any l.toArray b (Array.replicate l.toArray.size false))=true)
 (d:S w.drew) (h:bn P l.toArray S (λa' W=>wpList P l.toArray Q [] a' W) (attachW l b) a w.drew):(Code.region id l.toArray true).wp P Q a w:=by
 simp only[Bool.and_eq_true,decide_eq_true_eq]at hB;refine wp_region_any c ?_;rw[<-hB.1.2];refine nZ (S:=S) _ _ _ _ ?_;have:=rm (P:=P) (K:=Q .normal) hB.1.1 b _ a w.drew d hB.2 (pQ b _ a w.drew hB.2 h);rw[<-hB.1.2]at this;exact this
section
variable {K : Act → World → Prop} {a : Act} {w : World} {r : List (Bool × Nat × Oper)} {k : Nat} {o : Oper} {v : Value}
theorem ag (h:K a w):bn P ops S K [] a w:=h
theorem pj (hg:o.guard=none) (b:∀W,S W->(execOp a.eval o).run P W= .ok (.value v) W) (h:bn P ops S K r (a.put o.dst v) w):bn P ops S K ((false,k,o)::r) a w:=
 ⟨v,.inl ⟨by simp[Region.wanted,hg],b⟩,h⟩
theorem tM (hg:Region.wanted o (yielded ops a.tmps)=true) (b:∀W,S W->(execOp a.eval o).run P W= .ok (.value v) W) (h:bn P ops S K r (a.put o.dst v) w):bn P ops S K ((false,k,o)::r) a w:=
 ⟨v,.inl ⟨hg,b⟩,h⟩
theorem mF (hg:Region.wanted o (yielded ops a.tmps)=false) (h:bn P ops S K r (a.put o.dst undef) w):bn P ops S K ((false,k,o)::r) a w:=
 ⟨undef,.inr ⟨hg,rfl⟩,h⟩
theorem fD (hg:Region.wanted o (yielded ops a.tmps)=true) {w':World} (b:(execOp a.eval o).run P w= .ok (.value v) w') (c:S w') (h:bn P ops S K r (a.put o.dst v) w'):bn P ops S K ((true,k,o)::r) a w:=
 .inl ⟨hg,by rw[b];exact⟨c,h⟩⟩
theorem lp (hg:Region.wanted o (yielded ops a.tmps)=false) (b:S w) (h:bn P ops S K r (a.put o.dst undef) w):bn P ops S K ((true,k,o)::r) a w:=
 .inr ⟨hg,b,h⟩
theorem E9 (hg:Region.wanted o (yielded ops a.tmps)=true) {f:FuncId} {args:Array Value} (c:∀W,(execOp a.eval o).run P W= .ok (.enter f args) W)
 (hc:Calls P f args w (λe b=>∃v,e= .returned v/\S b/\bn P ops S K r (a.put o.dst v) b)):bn P ops S K ((true,k,o)::r) a w:=
 .inl ⟨hg,by rw[c w];exact hc⟩
end
end
section
variable {P : Program} {ops : Array Oper} {S : World → Prop} {K : Act → World → Prop} {a a' : Act} {w : World} {r : List (Bool × Nat × Oper)} {k : Nat} {o : Oper} {v : Value}
theorem zO {b:Prop} (c:b) (h:bn P ops S K r a' w) (hg:o.guard=none:=by exact rfl) (d:b->∀W,S W->(execOp a.eval o).run P W= .ok (.value v) W:=by intro c W e;have g:=c W e;go_simp<;>rfl) (f:a.put o.dst v=a':=by(try simp only[yQ,yU,yX,yY])<;>exact rfl):bn P ops S K ((false,k,o)::r) a w:=pj hg (d c) (f▸h)
theorem zU (h:bn P ops S K r a' w) (hg:o.guard=none:=by exact rfl) (b:∀W,S W->(execOp a.eval o).run P W= .ok (.value v) W:=by intro W d;go_simp<;>rfl) (c:a.put o.dst v=a':=by(try simp only[yQ,yU,yX,yY])<;>exact rfl):bn P ops S K ((false,k,o)::r) a w:=pj hg b (c▸h)
theorem zX {b:Prop} (c:b) (h:bn P ops S K r a' w) (hg:Region.wanted o (yielded ops a.tmps)=true:=by exact rfl) (d:b->∀W,S W->(execOp a.eval o).run P W= .ok (.value v) W:=by intro c W e;have g:=c W e;go_simp<;>rfl) (f:a.put o.dst v=a':=by(try simp only[yQ,yU,yX,yY])<;>exact rfl):bn P ops S K ((false,k,o)::r) a w:=tM hg (d c) (f▸h)
theorem zY (h:bn P ops S K r a' w) (hg:Region.wanted o (yielded ops a.tmps)=true:=by exact rfl) (b:∀W,S W->(execOp a.eval o).run P W= .ok (.value v) W:=by intro W d;go_simp<;>rfl) (c:a.put o.dst v=a':=by(try simp only[yQ,yU,yX,yY])<;>exact rfl):bn P ops S K ((false,k,o)::r) a w:=tM hg b (c▸h)
theorem zZ {f:FuncId} {args:Array Value} (hc:Calls P f args w (λe b=>∃v,e= .returned v/\S b/\bn P ops S K r (a.put o.dst v) b)) (hg:Region.wanted o (yielded ops a.tmps)=true:=by exact rfl) (c:∀W,(execOp a.eval o).run P W= .ok (.enter f args) W:=by intro W;go_simp<;>exact⟨rfl,rfl⟩):bn P ops S K ((true,k,o)::r) a w:=E9 hg c hc
theorem jO {d:Option Nat} (h:bn P ops S K r a' w) (b:a.put d v=a':=by(try simp only[yQ,yU,yX,yY])<;>exact rfl):bn P ops S K r (a.put d v) w:=b▸h
theorem zV (hg:o.guard=none) (b:∀W,S W->(execOp a.eval o).run P W= .ok (.value v) W) (h:bn P ops S K r a' w) (c:a.put o.dst v=a':=by(try simp only[yQ,yU,yX,yY])<;>exact rfl):bn P ops S K ((false,k,o)::r) a w:=pj hg b (c▸h)
theorem zW (hg:Region.wanted o (yielded ops a.tmps)=true) (b:∀W,S W->(execOp a.eval o).run P W= .ok (.value v) W) (h:bn P ops S K r a' w) (c:a.put o.dst v=a':=by(try simp only[yQ,yU,yX,yY])<;>exact rfl):bn P ops S K ((false,k,o)::r) a w:=tM hg b (c▸h)
theorem zJ (hg:Region.wanted o (yielded ops a.tmps)=false) (h:bn P ops S K r a' w) (b:a.put o.dst undef=a':=by(try simp only[yQ,yU,yX,yY])<;>exact rfl):bn P ops S K ((false,k,o)::r) a w:=mF hg (b▸h)
theorem zQ (hg:Region.wanted o (yielded ops a.tmps)=true) {w':World} (b:(execOp a.eval o).run P w= .ok (.value v) w') (c:S w') (h:bn P ops S K r a' w') (d:a.put o.dst v=a':=by(try simp only[yQ,yU,yX,yY])<;>exact rfl):bn P ops S K ((true,k,o)::r) a w:=fD hg b c (d▸h)
theorem yV (hg:Region.wanted o (yielded ops a.tmps)=false) (b:S w) (h:bn P ops S K r a' w) (c:a.put o.dst undef=a':=by(try simp only[yQ,yU,yX,yY])<;>exact rfl):bn P ops S K ((true,k,o)::r) a w:=lp hg b (c▸h)
end
def mO (l:List Oper) (b:Bool):List Nat->List (Bool×Nat×Oper)
 |[]=>[]
 |k::r=>match k with
  |0=>mO l (!b) r
  |k+1=>match l[k]? with
   |some o=>(b,k,o)::mO l b r
   |none=>[]
def tF:Bool->List Nat->List (Bool×Nat)
 |_,[]=>[]
 |b,0::r=>tF (!b) r
 |b,(k+1)::r=>(b,k)::tF b r
theorem rV (l:List Oper):∀(r:List Nat) (b:Bool),mO l b r=attachW l (tF b r)
 |[],_=>rfl
 |0::r,b=>by simp only[mO,tF];exact rV l r _
 |(k+1)::r,b=>by
  simp only[mO,tF,attachW];cases l[k]? with
  |none=>rfl
  |some o=>simp only[];rw[rV l r b]
theorem yO {P:Program} (S:World->Prop) {id:Nat} {Q:Exit->Act->World->Prop} {a:Act} {w:World} {l:List Oper} {c:List (Bool×Nat×Oper)} (b:List Nat) (d:S w.drew) (h:bn P l.toArray S (λa' W=>wpList P l.toArray Q [] a' W) c a w.drew)
 (e:P.follows .mixedOrders=true:=by kernel_rfl) (hB:(Region.noSelect l.toArray&&decide ((tF false b).length=l.toArray.size)&&ordB .any l.toArray (tF false b) (Array.replicate l.toArray.size false))=true:=by kernel_rfl)
 (f:mO l false b=c:=by simp only[mO,List.getElem?_cons_zero,List.getElem?_cons_succ,Bool.not_false,Bool.not_true];exact rfl):(Code.region id l.toArray true).wp P Q a w:=by
 subst f;exact Da (tF false b) e hB d (by rw[<-rV];exact h)
def NR:Nat->List Nat
 |0=>[]
 |n+1=>NR n++[n+1]
def an (a:Nat):Nat:=if a=4 then 4 else 5
theorem eZ (m:Nat) (w:World):
 Calls Tryz.prog 132 #[.int .i64 m] w λe w'=>e= .returned (.int .i64 ((an m:Nat):Int))/\w'=w:=by
 by_cases h:m=4
 ·subst h;go_enter Tryz.func132,Tryz.ntmps132;go_wp2;go_ret;exact⟨rfl,rfl⟩
 ·have b:((m:Int)==4)=false:=by rw[beq_eq_false_iff_ne];omega
  have a:Hid (an m=5):=by show _=_;unfold an;rw[if_neg h]
  clear h;go_enter Tryz.func132,Tryz.ntmps132;go_wp2;go_ret;exact⟨by rw[a.out];rfl,rfl⟩
def ir (b:List Bool) (at_:Nat):Nat:=if at_<b.length/\b.getD at_ false=false then 0 else 1
theorem Af (A:Option Addr) (n c:Nat) (b:List Bool) (k:Nat) (w:World) (hb:SR vB false w A n c b) (l:k<=100000000):
 Calls Tryz.prog 82 #[.slice A n c,.int .i64 k] w λe w'=>e= .returned (.int .i64 ((ir b k:Nat):Int))/\w'=w:=by
 have a:Hid (n=b.length):=hb.hn;have g:=Lib.hid hb.rd;clear hb;by_cases j:k<n
 ·obtain⟨m,rfl,p,f⟩:=g.out (by rw[<-a.out];omega);have o:=f k (by rw[<-a.out];omega);have d:Hid (ir b k=if b.getD k false=false then 0 else 1):=by
   show _=_;unfold ir;have i:k<b.length:=by rw[<-a.out];exact j
   simp only[i,true_and]
  clear f;generalize b.getD k false=y at*;cases y with
  |false=>
   go_enter Tryz.func82,Tryz.ntmps82;go_wp2;go_ret;exact⟨by rw[d.out];rfl,rfl⟩
  |true=>
   go_enter Tryz.func82,Tryz.ntmps82;go_wp2;go_ret;exact⟨by rw[d.out];rfl,rfl⟩
 ·have d:Hid (ir b k=1):=by
   show _=_;unfold ir;rw[if_neg];have:=a.out;omega
  go_enter Tryz.func82,Tryz.ntmps82;go_wp2;go_ret;exact⟨by rw[d.out];rfl,rfl⟩
abbrev vN:Nat->Value:=λn=>Value.int .i64 (n:Int)
theorem wj (x:Nat):(vN x).oneCell'=true:=rfl
theorem qy (b:List Bool) (k:Nat):ir b k<=1:=by unfold ir;split<;>omega
def sfV (b:List Bool) (k:Nat):Nat->Nat
 |0=>0
 |j+1=>2* sfV b k j+ir b (k+j)
theorem Gr (b:List Bool) (k j:Nat):sfV b k j<2^j:=by
 induction j with
 |zero=>simp[sfV]
 |succ j a=>
  have:=qy b (k+j);show 2* sfV b k j+ir b (k+j)<2^(j+1);rw[Nat.pow_succ];omega
def jk (b:List Bool) (s k:Nat):Nat×Nat:=
 if sfV b k (s-1)=0 then(1,k+(s-1))else if sfV b k (s-1)=2^(s-1)-1 then(2* sfV b k (s-1),k+(s-1))else(2* sfV b k (s-1)+ir b (k+(s-1)),k+s)
def stuffFrom (b:List Bool) (s:Nat):Nat->Nat->List Nat
 |0,_=>[]
 |f+1,k=>if k<b.length then(jk b s k).1::stuffFrom b s f (jk b s k).2 else[]
def aI (b:List Bool) (s:Nat):List Nat:=stuffFrom b s b.length 0
theorem zn (b:List Bool) (s f k:Nat) (h:b.length<=k):stuffFrom b s f k=[]:=by
 cases f with
 |zero=>rfl
 |succ f=>unfold stuffFrom;rw[if_neg oO]
theorem FG (b:List Bool) (s f k:Nat) (hs:2<=s) (h:k<b.length) (c:b.length<=f+k):∃a,stuffFrom b s f k=(jk b s k).1::stuffFrom b s a (jk b s k).2/\b.length<=a+(jk b s k).2:=by
 cases f with
 |zero=>omega
 |succ f=>
  refine⟨f,?_,?_⟩
  ·show(if k<b.length then _ else _)=_;rw[if_pos h]
  ·have:k+1<=(jk b s k).2:=by
    unfold jk;split
    ·show k+1<=k+(s-1);omega
    ·split
     ·show k+1<=k+(s-1);omega
     ·show k+1<=k+s;omega
   omega
theorem qW {s:Nat} (h:s<=12):2^s<=4096:=by
 have:=Nat.pow_le_pow_right (n:=2) oO h;simpa using this
theorem AU {j:Nat} (h:j<=12):wrap64 (wrap64 ((2:Int)^j)-1)=((2^j-1:Nat):Int):=by
 have a:(2:Int)^j=((2^j:Nat):Int):=by simp
 have b:=qW h;have c:1<=2^j:=Nat.one_le_two_pow;rw[a];have e1:wrap64 ((2^j:Nat):Int)=((2^j:Nat):Int):=by unfold wrap64;omega
 have e2:wrap64 (((2^j:Nat):Int)-1)=((2^j:Nat):Int)-1:=by unfold wrap64;omega
 rw[e1,e2];omega
theorem Ga (A:Option Addr) (n c s:Nat) (b:List Bool) (w:World) (hb:SR vB false w A n c b) (al:2<=s) (am:s<=12) (hn:n<=1048576):
 Calls Tryz.prog 32 #[.slice A n c,.int .i64 s] w λe w'=>∃v,e= .returned (.tuple #[v,.int .i64 0])/\SG vN 0 w' v (aI b s)/\Below w.heap.size w w':=by
 obtain⟨G,H,M,N,O⟩:=info_parts dg;have U:=Lib.hid hb;have p:Hid (n=b.length):=hb.hn;obtain⟨l,V⟩:∃l,l=s-1:=⟨_,rfl⟩;have bd:((s:Int)-1)=(l:Int):=oO;have be:l<=11:=oO;have bf:1<=l:=oO;have t:=Lib.hid V;have bi:decide ((s:Int)<2)=false:=by simp;omega
 have bq:decide ((12:Int)<(s:Int))=false:=by simp;omega
 clear hb V al am;go_enter Tryz.func32,Tryz.ntmps32;go_wp2;go_loopw [6,7] (λap q wr=>∃(k f:Nat) (g:List Nat),q= .int .i64 k/\k<=n+12/\Hid (OG vN 3 w wr ap g)/\Hid (g.length<=k)/\Hid (g++stuffFrom b s f k=aI b s)/\Hid (n<=f+k)) (λ_ q _=>n+12-(intOf q).toNat)
 case atStart=>exact⟨0,b.length,[],rfl,by omega,OG.start _ _,Nat.le_refl _,rfl,by show _<=_;rw[p.out];omega⟩
 case round=>
  obtain⟨k,f,g,rfl,a8,J,D,E,hF⟩:=hrel;by_cases a6:k<n
  ·go_wp2;obtain⟨L,rfl⟩:∃L:World,L=wr:=⟨_,rfl⟩;go_loopw [7,8,24] (λav a0 q wr=>∃j K x:Nat,j<=l/\K<=n+12/\x<=4096/\av= .int .i64 K/\a0= .int .i64 x/\q= .int .i64 j/\Hid (af L wr)/\Hid (K=k+j)/\Hid (x=sfV b k j)) (λ_ _ q _=>l-(intOf q).toNat)
   case atStart=>exact⟨0,k,0,Nat.zero_le _,by omega,by omega,rfl,rfl,rfl,Below.refl _ _,rfl,rfl⟩
   case round=>
    obtain⟨j,K,x,a1,a9,a2,rfl,rfl,rfl,W,a,Y⟩:=hrel;have i:=Lib.hid (J.out.below W.out);by_cases a7:j<l
    ·have a3:=qy b K;have Z:Hid (2* x+ir b K=sfV b k (j+1)):=by
      show _=_;rw[Y.out,a.out];rfl
     have bo:2* x+ir b K<=4096:=by
      rw[Z.out];have:=Gr b k (j+1);have:=qW (s:=j+1) oO;omega
     have P:Hid (Calls Tryz.prog 82 #[.slice A n c,.int .i64 K] wr λe w'=>e= .returned (.int .i64 ((ir b K:Nat):Int))/\w'=wr):=Af A n c b K wr (U.out.below i.out.B) oO;generalize ir b K=y at*;go_wp2_with(go_at_call 82;refine P.out.mono ?_;rintro e w' ⟨rfl,rfl⟩)
     exact⟨⟨j+1,K+1,2* x+y,by omega,by have:=a.out;omega,by omega,by go_num,by go_num,by go_num,W.out,by rw[a.out];rfl,Z.out⟩,by simp[intOf];omega⟩
    ·obtain rfl:j=l:=oO;have Q:Hid (x=sfV b k (s-1)):=by show _=_;rw[Y.out,t.out]
     have S:Hid (∃m,stuffFrom b s f k=(jk b s k).1::stuffFrom b s m (jk b s k).2/\b.length<=m+(jk b s k).2):=FG b s f k (by have:=t.out;omega) (by rw[<-p.out];exact a6) (by rw[<-p.out];exact hF.out);have u:Hid (g.length<=1048577):=by have:=D.out;show _<=_;omega
     by_cases T:x=0
     ·subst T;have r:Hid (jk b s k=(1,K)):=by
       show _=_;unfold jk;rw[<-Q.out,if_pos rfl,a.out,t.out]
      clear a2 a1 a7;go_wp2_with(at_builtin;refine aV (f:=vN) (d:=0) wj rfl _ _ _ rfl w.heap.size 3 G _ 8 Tryz.underlying64 H M N O rfl _ g.length g rfl ((au i.out.O (Below.refl _ _)).alloc _) (some ⟨wr.heap.size,0,none⟩) 1 1 [1] rfl rfl (RG.one _ _ _ _ rfl) (by unfold maxLen;have:=u.out;omega) (by have:=u.out;omega) (by have:=i.out.B.size;simp;omega) ?_;intro ab ac o hg;have z:=Lib.hid (i.out.grow (ax _ _) o hg);clear o hg)
      obtain⟨m,e1,e2⟩:=S.out;rw[r.out]at e1 e2;refine⟨⟨K,m,g++[1],rfl,by omega,z.out,by rw[List.length_append];have:=D.out;have:=a.out;show _+1<=K;omega,by rw[List.append_assoc];have h:=E.out;rw[e1]at h;exact h,by show n<=_;rw[p.out];exact e2⟩,?_⟩;have:=a.out;simp[intOf];omega
     ·have bb:((x:Int)==0)=false:=by rw[beq_eq_false_iff_ne];omega
      have F:=AU (j:=j) oO;by_cases C:x=2^j-1
      ·have a4:((x:Int)==wrap64 (wrap64 (2^j)-1))=true:=by rw[F,C];simp
       have r:Hid (jk b s k=(2* x,K)):=by
        show _=_;unfold jk;rw[<-Q.out,if_neg T,<-t.out,if_pos C,a.out]
       obtain⟨X,B⟩:∃X,X=2* x:=⟨_,rfl⟩;have e2:2* (x:Int)=(X:Int):=oO;rw[<-B]at r;clear F C B;go_wp2_with(at_builtin;refine aV (f:=vN) (d:=0) wj rfl _ _ _ rfl w.heap.size 3 G _ 8 Tryz.underlying64 H M N O rfl _ g.length g rfl ((au i.out.O (Below.refl _ _)).alloc _) (some ⟨wr.heap.size,0,none⟩) 1 1 [X] rfl rfl (RG.one _ _ _ _ rfl) (by unfold maxLen;have:=u.out;omega) (by have:=u.out;omega) (by have:=i.out.B.size;simp;omega) ?_;intro ab ac o hg;have z:=Lib.hid (i.out.grow (ax _ _) o hg);clear o hg)
       obtain⟨m,e1,e3⟩:=S.out;rw[r.out]at e1 e3;refine⟨⟨K,m,g++[X],rfl,by have:=a.out;omega,z.out,by rw[List.length_append];have:=D.out;have:=a.out;show _+1<=_;omega,by rw[List.append_assoc];have h:=E.out;rw[e1]at h;exact h,by show n<=_;rw[p.out];exact e3⟩,?_⟩;have:=a.out;simp[intOf];omega
      ·have a4:((x:Int)==wrap64 (wrap64 (2^j)-1))=false:=by rw[F,beq_eq_false_iff_ne];omega
       have r:Hid (jk b s k=(2* x+ir b K,K+1)):=by
        show _=_;unfold jk;rw[<-Q.out,if_neg T,<-t.out,if_neg C,<-a.out];have:=t.out;have:=a.out;congr 1;omega
       have a3:=qy b K;have P:Hid (Calls Tryz.prog 82 #[.slice A n c,.int .i64 K] wr λe w'=>e= .returned (.int .i64 ((ir b K:Nat):Int))/\w'=wr):=Af A n c b K wr (U.out.below i.out.B) oO;clear F C;generalize ir b K=y at*;obtain⟨X,B⟩:∃X,X=2* x+y:=⟨_,rfl⟩;have e2:2* (x:Int)+(y:Int)=(X:Int):=oO;rw[<-B]at r;clear B
       go_wp2_with(first
        |(go_at_call 82;refine P.out.mono ?_;rintro e w' ⟨rfl,ad⟩;rw[ad];clear ad)
        |(at_builtin;refine aV (f:=vN) (d:=0) wj rfl _ _ _ rfl w.heap.size 3 G _ 8 Tryz.underlying64 H M N O rfl _ g.length g rfl ((au i.out.O (Below.refl _ _)).alloc _) (some ⟨wr.heap.size,0,none⟩) 1 1 [X] rfl rfl (RG.one _ _ _ _ rfl) (by unfold maxLen;have:=u.out;omega) (by have:=u.out;omega) (by have:=i.out.B.size;simp;omega) ?_;intro ab ac o hg;have z:=Lib.hid (i.out.grow (ax _ _) o hg);clear o hg))
       obtain⟨m,e1,e3⟩:=S.out;rw[r.out]at e1 e3;refine⟨⟨K+1,m,g++[X],by go_num,by have:=a.out;omega,z.out,by rw[List.length_append];have:=D.out;have:=a.out;show _+1<=_;omega,by rw[List.append_assoc];have h:=E.out;rw[e1]at h;exact h,by show n<=_;rw[p.out];exact e3⟩,?_⟩;have:=a.out;simp[intOf];omega
  ·have a5:Hid (g=aI b s):=by
    have h:=E.out;rw[zn b s f k (by rw[<-p.out];omega),List.append_nil]at h;exact h
   go_wp2;go_ret2
   exact⟨_,rfl,by rw[<-a5.out];exact J.out.sg,J.out.B⟩
end
end Go.Proofs.YtmnlkganmgcpbaaGreatDoor
