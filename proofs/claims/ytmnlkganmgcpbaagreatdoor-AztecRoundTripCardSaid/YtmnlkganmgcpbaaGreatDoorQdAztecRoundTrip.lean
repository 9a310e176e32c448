/- For every input, the law AztecRoundTrip of layer 28 (aztec) answers true and leaves its arguments as they were, whatever the listed tables of Go's library hold when it begins: the row and its tied card. No condition beyond the listed tables. -/
import Derived.Test.YtmnlkganmgcpbaaGreatDoorQd23
import Derived.Test.YtmnlkganmgcpbaaGreatDoorCards
set_option maxRecDepth 100000
set_option maxHeartbeats 4000000
set_option linter.unusedVariables false
set_option linter.unusedSectionVars false
set_option linter.unusedSimpArgs false
namespace Go.Proofs.YtmnlkganmgcpbaaGreatDoor.aztecRoundTrip
section
open Go.RowKit
abbrev Ar (a:Int) (b:Bool) (c:Int):Value:= .agg #[.int .i64 a,.bool b,.int .i64 c]
theorem cells6 {W:World} {b:Nat} {u v x y z t:Value} (h:ak W b [u,v,x,y,z,t]):W.cell? ⟨b,0,none⟩=some u/\W.cell? ⟨b,1,none⟩=some v/\W.cell? ⟨b,2,none⟩=some x/\W.cell? ⟨b,3,none⟩=some y/\W.cell? ⟨b,4,none⟩=some z/\W.cell? ⟨b,5,none⟩=some t:=⟨h.2 0 oS,h.2 1 oS,h.2 2 oS,h.2 3 oS,h.2 4 oS,h.2 5 oS⟩
theorem walk_big (A:Option Addr) (n g:Nat) (d:Int) (i:Bool) (k:Int) (w:World) (m:n<=9223372036854775807) (h:60<n\/(n<=60/\8<d)):Calls Tryz.prog 3 #[.slice A n g,Ar d i k] w λe w'=>e= .returned (.bool true)/\Below w.heap.size w w':=by
 have f:Hid (∀W,Calls Tryz.prog 11 #[] W λe w'=>e= .returned (.bool true)/\Below W.heap.size W w'):=λW=>oI W;rcases h with h|⟨l,h⟩
 ·have j:(60:Int)<n:=oO;go_enter Tryz.func3,Tryz.ntmps3;go_wp2_with(go_at_call 11;refine(f.out _).mono ?_;rintro e b ⟨rfl,a⟩;have c:Hid (Below w.heap.size w b):=cP a;clear a)
  go_ret;exact⟨rfl,c.out⟩
 ·have j:¬(60:Int)<n:=oO;go_enter Tryz.func3,Tryz.ntmps3;go_wp2_with(go_at_call 11;refine(f.out _).mono ?_;rintro e b ⟨rfl,a⟩;have c:Hid (Below w.heap.size w b):=cP a;clear a)
  go_ret;exact⟨rfl,c.out⟩
theorem walk_err (A:Option Addr) (n b:Nat) (a:Int) (c:Bool) (d k:Int) (w:World) (t:n<=60) (q:¬8<a) (r:¬k=0)
 (l:Hid (∀V,af w V->Calls Tryz.prog 12 #[.slice A n b,Ar a c d] V λe w'=>e= .returned (.tuple #[.agg bc,.int .i64 k])/\Below V.heap.size V w')):
 Calls Tryz.prog 3 #[.slice A n b,Ar a c d] w λe w'=>e= .returned (.bool true)/\Below w.heap.size w w':=by
 have m:Hid (∀W,Calls Tryz.prog 11 #[] W λe w'=>e= .returned (.bool true)/\Below W.heap.size W w'):=λW=>oI W;have s:¬(60:Int)<n:=oO;go_enter Tryz.func3,Tryz.ntmps3
 go_wp2_with(first
  |(go_at_call 12;refine(l.out _ (ax _ _)).mono ?_;rintro e i ⟨rfl,f⟩;have o:Hid (Below w.heap.size w i):=cP f;clear f;simp only[bc])
  |(go_at_call 11;refine(m.out _).mono ?_;rintro e j ⟨rfl,g⟩;have p:Hid (Below w.heap.size w j):=ae (ah o.out _) g;clear g))
 go_ret;exact⟨rfl,p.out⟩
theorem LD (A:Option Addr) (n j:Nat) (l:List UInt8) (m:Int) (p:Bool) (q:Int) (L:Nat) (c:Bool) (a:Int) (sd:Nat) (dl:List Bool) (w:World) (a8:n<=60) (ac:¬8<m) (hs:SR vU 0 w A n j l)
 (H:Hid (∀V,af w V->Calls Tryz.prog 12 #[.slice A n j,Ar m p q] V λe w'=>∃A N g,e= .returned (.tuple #[.agg #[.int .i64 (L:Int),.bool c,.int .i64 a,.int .i64 (sd:Int),.int .i64 (sd:Int),.slice A N g],.int .i64 0])/\SR vB false w' A N g dl/\Below V.heap.size V w'/\Hid (∃C,cj (bA l) C)))
 (J:Hid (∀V,Calls Tryz.prog 13 #[.int .i64 (L:Int),.bool c] V λe w'=>e= .returned (.tuple #[.int .i64 (sd:Int),.int .i64 0])/\Below V.heap.size V w'))
 (K:Hid ((∃C,cj (bA l) C)->∀V A N g,SR vB false V A N g dl->Calls Tryz.prog 14 #[cX sd sd A N g] V (dC V (l,0,0)))):
 Calls Tryz.prog 3 #[.slice A n j,Ar m p q] w λe w'=>e= .returned (.bool true)/\Below w.heap.size w w':=by
 have M:Hid (∀W,Calls Tryz.prog 11 #[] W λe w'=>e= .returned (.bool true)/\Below W.heap.size W w'):=λW=>oI W;have y:=Lib.hid hs;have ad:¬(60:Int)<n:=oO;clear hs;go_enter Tryz.func3,Tryz.ntmps3
 go_wp2_with(first
  |(go_at_call 12;refine(H.out _ (ax _ _)).mono ?_;rintro e i ⟨b,d,f,rfl,r,s,O⟩;have P:Hid (Below w.heap.size w (i.alloc (.cells #[.int .i64 (L:Int),.bool c,.int .i64 a,.int .i64 (sd:Int),.int .i64 (sd:Int),.slice b d f] 30))):=ah (cP s) _;have Q:Hid (ak (i.alloc (.cells #[.int .i64 (L:Int),.bool c,.int .i64 a,.int .i64 (sd:Int),.int .i64 (sd:Int),.slice b d f] 30)) i.heap.size [.int .i64 (L:Int),.bool c,.int .i64 a,.int .i64 (sd:Int),.int .i64 (sd:Int),.slice b d f]):=ak.new i #[.int .i64 (L:Int),.bool c,.int .i64 a,.int .i64 (sd:Int),.int .i64 (sd:Int),.slice b d f] _ _ rfl;have S:Hid (SR vB false (i.alloc (.cells #[.int .i64 (L:Int),.bool c,.int .i64 a,.int .i64 (sd:Int),.int .i64 (sd:Int),.slice b d f] 30)) b d f dl):=r.below (ax _ _);clear s r)
  |(go_at_call 13;refine(J.out _).mono ?_;rintro e z ⟨rfl,k⟩;have T:Hid (Below w.heap.size w z):=ae P.out k;have t:=Lib.hid (Q.out.below k);have U:=Lib.hid (S.out.below k);obtain⟨al,am,ap,av,a0,a1⟩:=cells6 t.out;clear k)
  |(go_at_call 14;refine(K.out O.out _ _ _ _ U.out).mono ?_;rintro e B ⟨D,E,F,rfl,u,o⟩;have v:Hid (Below w.heap.size w B):=ae T.out o;have X:=Lib.hid (t.out.below o);have Y:=Lib.hid u;have Z:=Lib.hid (y.out.below v.out);obtain⟨a2,a3,a4,a5,a6,a7⟩:=cells6 X.out;clear o u)
  |((with_reducible show wpList _ _ _ (⟨_,Op.convert 22 9 _,_,_,_,_⟩::_) _ _);refine s8 rfl (rU (A:=D) (n:=E) (c:=F) rfl rfl Y.out) ?_)
  |((with_reducible show wpList _ _ _ (⟨_,Op.convert 22 9 _,_,_,_,_⟩::_) _ _);refine s8 rfl (rU (A:=A) (n:=n) (c:=j) rfl rfl Z.out) ?_)
  |(go_at_call 11;refine(M.out _).mono ?_;rintro e G ⟨rfl,x⟩;have ab:Hid (Below w.heap.size w G):=ae v.out x;clear x))
 go_ret;exact⟨rfl,ab.out⟩
theorem law_walk (A:Option Addr) (n b:Nat) (l:List UInt8) (a:Int) (d:Bool) (f:Int) (w:World) (hs:SR vU 0 w A n b l):Calls Tryz.prog 3 #[.slice A n b,.agg #[.int .i64 a,.bool d,.int .i64 f]] w λe w'=>e= .returned (.bool true)/\Below w.heap.size w w':=by
 have t:n<=9223372036854775807:=by have:=hs.hm;have:=hs.hc;unfold maxLen at*;omega
 have hn:n=l.length:=hs.hn;by_cases D:60<n
 ·exact walk_big A n b a d f w t (.inl D)
 by_cases j:8<a
 ·exact walk_big A n b a d f w t (.inr ⟨by omega,j⟩)
 obtain⟨z,g⟩:∃z,z=kT l a d f:=⟨_,rfl⟩;obtain⟨u,k⟩:=z;cases u with
 |none=>
  refine walk_err A n b a d f k w oO j (GM g.symm) λV m=>?_;refine(pY A n b l a d f V (hs.below m) oO).mono ?_;rintro e w' ⟨-,v,rfl,i,hb⟩;rw[<-g]at i⊢;obtain rfl:=i;exact⟨rfl,hb⟩
 |some p=>
  obtain⟨L,c⟩:=p;obtain⟨rfl,x,F,y,B,C⟩:=yH g.symm;refine LD A n b l a d f L c ((aJ (bF l) (aq L)).length:Int) (ai L c) (eo L c (aJ (bF l) (aq L))) w oO j hs (λV m=>?_) (λV=>?_) (λo V q r s E=>?_)
  ·refine(pY A n b l a d f V (hs.below m) oO).mono ?_;rintro e w' ⟨o,v,rfl,i,hb⟩;rw[<-g]at i⊢;obtain⟨q,r,s,-,rfl,h⟩:=i;exact⟨q,r,s,rfl,h,hb,o x⟩
  ·have h:=rV L c V;have e:pF (L:Int) c=(((ai L c:Nat):Int),0):=by
    unfold pF;rw[if_pos (exB_of y B C),Int.toNat_natCast]
   rw[e]at h;exact h
  ·have h:=CI (ai L c) (ai L c) q r s _ V E;rw[LN oO o g.symm]at h;exact h
end
section
open Go.ChangeShapes Go.WideShapes Go.ChangeAt Go.RowKit
theorem k0:Rows.aztecRoundTripRow.wf (OpenSpec.ofChange Rows.aztecRoundTripSpec)=true:=oK
theorem k3:Tryz.f3.params.all (Tryz.prog.readableRec ·)=true:=oK
theorem k4:namedTie Tryz.prog Rows.aztecRoundTripRow.named Rows.aztecRoundTripSpec.vars=true:=oK
theorem k5:(Rows.aztecRoundTripRow.stops==[])=true:=oK
theorem k7:(Rows.aztecRoundTripRow.knobs==[])=true:=oK
theorem k9:(Rows.aztecRoundTripRow.inPlace==Tryz.prog.inPlace 3)=true:=oK
theorem k10:(Rows.aztecRoundTripRow.unfollowed==Tryz.prog.unfollowed 3)=true:=oK
theorem k11:(Rows.aztecRoundTripRow.recurses==Tryz.prog.recurses 3)=true:=oK
theorem k12:(Rows.aztecRoundTripRow.named==Tryz.prog.varsNamed 3)=true:=oK
theorem k13:(Rows.aztecRoundTripRow.maps==(Tryz.f3.params.toList++Rows.aztecRoundTripSpec.plain.varTypes Tryz.prog).any (Tryz.prog.mapsRec ·))=true:=oK
theorem k14:(Rows.aztecRoundTripRow.ifaces==(Tryz.f3.params.toList++Rows.aztecRoundTripSpec.plain.varTypes Tryz.prog).any (Tryz.prog.ifacesRec ·))=true:=oK
theorem k15:(Rows.aztecRoundTripRow.mapsOut==Tryz.prog.mapsAmong Tryz.f3.resultTypes.toList)=true:=oK
theorem k16:(Rows.aztecRoundTripRow.loops==(Tryz.f3.params.toList++Rows.aztecRoundTripSpec.plain.varTypes Tryz.prog).any (Tryz.prog.loopsFrom ·))=true:=oK
theorem k17:(Rows.aztecRoundTripRow.wideKeys==(Tryz.f3.params.toList++Rows.aztecRoundTripSpec.plain.varTypes Tryz.prog++Tryz.f3.resultTypes.toList).any (Tryz.prog.wideKeysFrom ·))=true:=oK
theorem k18:Rows.aztecRoundTripSpec.vars.all (Tryz.prog.varReadable ·)=true:=oK
theorem k19:Tryz.f3.resultTypes.all (λt=>Tryz.prog.readableRec t&&decide (t<Tryz.prog.types.size))=true:=oK
theorem k20:(Rows.aztecRoundTripRow.ifacesOut==Tryz.f3.resultTypes.toList.any (Tryz.prog.ifacesRec ·))=true:=oK
theorem k21:(Rows.aztecRoundTripRow.loopsOut==Tryz.f3.resultTypes.toList.any (Tryz.prog.loopsFrom ·))=true:=oK
theorem k22:(Rows.aztecRoundTripRow.plainKeys==Tryz.prog.plainKeys)=true:=oK
theorem k23:Rows.aztecRoundTripRow.shortTexts.isNone=true:=oK
theorem k26:(Rows.aztecRoundTripRow.lifted==Tryz.prog.liftsFinal)=true:=oK
theorem k27:(Tryz.prog.make==some Rows.aztecRoundTripRow.make)=true:=oK
theorem k28:(Rows.aztecRoundTripRow.kinds==(if Rows.aztecRoundTripRow.domain.isEmpty then[]else Tryz.f3.params.toList.map λt=>match Tryz.prog.underlying t with|some (.int k)=>some k|_=>none))=true:=oK
theorem k29:(Rows.aztecRoundTripRow.pinned==Rows.aztecRoundTripRow.pinnedBy)=true:=oK
theorem k30:(Rows.aztecRoundTripRow.veiled==(Tryz.f3.params.toList++Rows.aztecRoundTripSpec.plain.varTypes Tryz.prog++Tryz.f3.resultTypes.toList).any (Tryz.prog.veiledRec ·))=true:=oK
theorem k31:Rows.aztecRoundTripRow.veiledFits Tryz.prog Tryz.f3.params.toList (Tryz.f3.params.toList++Rows.aztecRoundTripSpec.plain.varTypes Tryz.prog++Tryz.f3.resultTypes.toList)=true:=oK
theorem closedK:joinedFacts Tryz.prog 3 Tryz.f3 Rows.aztecRoundTripSpec Rows.aztecRoundTripRow=true:=cI (cI (cI (cI (cI (cI (cI (cI (cI (cI (cI (cI (cI (cI (cI (cI (cI (cI (cI (cI (cI (cI (cI (cI (cI (cI (cI (cI (cI (cI (cI k0 KO) Cr) k3) k4) k5) IN) k7) Ca) k9) k10) k11) k12) k13) k14) k15) k16) k17) k18) k19) k20) k21) k22) k23) zt) Dc) k26) k27) k28) k29) k30) k31
abbrev L:List (String×DataW Unit):=[("unicode/utf8.acceptRanges",Rows.laid_unicode_utf8_acceptRanges),("unicode/utf8.first",Rows.laid_unicode_utf8_first)]
theorem lifted (os:Os) (G:os.Started) (H:Type) (enc:TypeId×Value->H):
 ReturnsInHanded {} Tryz.checked os 3 .any (λw args=>(Rows.aztecRoundTripSpec.pre enc Tryz.prog Tryz.f3 [] false w args/\laidMetH Tryz.prog L w)/\sizedMet enc Tryz.prog Tryz.f3 (OpenSpec.ofChange Rows.aztecRoundTripSpec) false w args)
  (Rows.aztecRoundTripSpec.post enc Tryz.prog Tryz.f3 false true false false):=by
 refine returnsInHanded_of_change_and (C:=Tryz.checked) (X:=λw _=>laidMetH Tryz.prog L w) (λ_ _ _ f h=>h.of_heap f) Nd G oK Tryz.func3
  (ChangeSpec.witness_shaped (enc:=enc) (C:=Tryz.checked) (os:=os) (X:=λw _=>laidMetH Tryz.prog L w) false (World.laidAll Tryz.prog os L) #[.slice none 0 0,.agg #[.int .i64 0,.bool false,.int .i64 0]] 8 (World.laidAll_os _ _ _)
   (World.shaped_of_ZipB oK oK) oK oK oK
   (by rw[MakeChecks.laidMetH_plain _ _ _ oK];exact laidMet_laidAll _ oK oK)) ?_
 intro W base args g J ad F b _ _ K _;have a:∀(j:Nat) t v,Tryz.f3.params[j]?=some t->args[j]?=some v->Value.okWide Tryz.prog W .any base t v:=F;have B:=b;obtain⟨p,q,D,i,rfl,T,U⟩:=b;have c:DataW.TrodAll enc Tryz.prog W 0 (λ_=>true) true Tryz.f3.params.toList args.toList g p:=D;rw[Tryz.params3]at c a;obtain⟨v0,V,M,Y,N,O,ac,rfl,rfl,k,l⟩:=trodAll_cons c;obtain⟨v1,Z,P,ab,p1,Q,rfl,rfl,rfl,m,n⟩:=trodAll_cons l;obtain⟨rfl,rfl,rfl⟩:=trodAll_nil n;obtain rfl:args=#[v0,v1]:=by cases args;simp_all
 obtain⟨rfl,rfl⟩:=trodVars_none i;have E:∀t∈Tryz.f3.params.toList,Tryz.prog.readableRec t=true/\t<Tryz.prog.types.size:=by
  rw[Tryz.params3];intro t d;simp only[List.mem_cons,List.not_mem_nil,or_false]at d;rcases d with rfl|rfl<;>exact⟨by kernel_rfl,of_decide_eq_true oK⟩
 obtain⟨o,r,c0,s,rfl,u⟩:=Ij (a 0 22 v0 rfl rfl) k;obtain⟨x,y,z,rfl⟩:=J6 (a 1 24 v1 rfl rfl) m;refine(law_walk o r c0 s x y z W u).mono λe S ⟨A,hb⟩=>?_;subst A;exact⟨_,rfl,I9 MO Tryz.underlying4 rfl rfl E B rfl hb⟩
theorem over:Rows.aztecRoundTripRow.holds Tryz.pinned (OpenSpec.ofChange Rows.aztecRoundTripSpec):=
 OpenClaim.holds_of_wide 3 Tryz.f3 rfl rfl rfl rfl rfl rfl rfl ⟨rfl,rfl,rfl,rfl,rfl⟩ rfl rfl rfl rfl rfl oK Tryz.func3 closedK
  (of_decide_eq_true oK) (by unfold Func.isWrapper;first|(rw[if_pos (by decide+kernel)];kernel_rfl)|(rw[if_neg (by decide+kernel)];exact⟨rfl,rfl⟩))
  (λos a H enc _=>lifted os a H enc)
theorem named:Tryz.prog.funcNamed "barscan/barscanlaw28.AztecRoundTrip" =some 3:=oK
theorem noStand:([22,24].all λu=>!Tryz.prog.wantsStandIn u)=true:=oK
theorem proved:Rows.AztecRoundTripCardSaid:=
 Claim7.holds_tied_plain_at .later [] [.data,.pinned] true (true,"65e349eac71c602cf550908973254ebb7b14ef88971fe42e5ec397cea621a45b") false
  over (λ_ h=>by cases h) oK (λ_ h=>by cases h) aztecRoundTrip_row_tie rfl ⟨rfl,rfl⟩ oK rfl
  (λf fn b d=>by
   obtain rfl:f=3:=Option.some.inj (named.symm.trans b)|>.symm;obtain rfl:fn=Tryz.f3:=(Option.some.inj (Tryz.func3.symm.trans d)).symm
   exact⟨by kernel_rfl,λj t a=>by
    rw[Tryz.params3]at a;have c:t∈[22,24]:=by
     have h:=Array.mem_of_getElem? a;simp only[List.mem_toArray,List.mem_cons,List.not_mem_nil,or_false]at h;rcases h with rfl|rfl<;>simp
    exact(show Tryz.prog.wantsStandIn t=false by simpa using List.all_eq_true.1 noStand t c)⟩)
  oK
end
end Go.Proofs.YtmnlkganmgcpbaaGreatDoor.aztecRoundTrip
