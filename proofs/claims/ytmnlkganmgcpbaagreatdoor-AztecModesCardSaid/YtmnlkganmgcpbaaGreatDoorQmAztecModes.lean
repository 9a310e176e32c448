/- For every input, the law AztecModes of layer 28 (aztec) answers true and leaves its arguments as they were, whatever the listed tables of Go's library hold when it begins: the row and its tied card. No condition beyond the listed tables. -/
import Derived.Test.YtmnlkganmgcpbaaGreatDoorQm23
import Derived.Lib.SmallJoins
import Derived.Test.YtmnlkganmgcpbaaGreatDoorCards
set_option maxRecDepth 100000
set_option maxHeartbeats 4000000
set_option linter.unusedVariables false
set_option linter.unusedSectionVars false
set_option linter.unusedSimpArgs false
namespace Go.Proofs.YtmnlkganmgcpbaaGreatDoor.aztecModes
section
open Go.RowKit
theorem law_walk (L k:Int) (c:Bool) (A:Option Addr) (n a:Nat) (b:List Bool) (w:World) (hb:SR vB false w A n a b):Calls Tryz.prog 9 #[.int .i64 L,.int .i64 k,.bool c,.slice A n a] w λe w'=>e= .returned (.bool true)/\Below w.heap.size w w':=by
 obtain⟨f,q⟩:∃f,f=(iP L k c).1:=⟨_,rfl⟩;obtain⟨g,r⟩:∃g,g=(iP L k c).2:=⟨_,rfl⟩;obtain⟨x,l⟩:∃x,x=(cF c b).1:=⟨_,rfl⟩;obtain⟨y,m⟩:∃y,y=(cF c b).2.1:=⟨_,rfl⟩;obtain⟨z,o⟩:∃z,z=(cF c b).2.2:=⟨_,rfl⟩;have Z:Hid (∀W,Calls Tryz.prog 23 #[.int .i64 L,.int .i64 k,.bool c] W λe w'=>∃v,e= .returned (.tuple #[v,.int .i64 g])/\SG vB false w' v f/\Below W.heap.size W w'):=λW=>by rw[q,r];exact JH L k c W
 have ab:Hid (∀W,Calls Tryz.prog 24 #[.int .i64 L,.int .i64 k,.bool c] W λe w'=>∃v,e= .returned (.tuple #[v,.int .i64 g])/\SG vB false w' v f/\Below W.heap.size W w'):=λW=>by rw[q,r];exact GD L k c W
 have ac:Hid (∀W,af w W->Calls Tryz.prog 25 #[.slice A n a,.bool c] W λe w'=>e= .returned (.tuple #[.int .i64 x,.int .i64 y,.int .i64 z])/\Below W.heap.size W w'):=λW p=>by rw[l,m,o];exact yI c b A n a W (hb.below p)
 have ad:Hid (∀W,af w W->Calls Tryz.prog 26 #[.slice A n a,.bool c] W λe w'=>e= .returned (.tuple #[.int .i64 x,.int .i64 y,.int .i64 z])/\Below W.heap.size W w'):=λW p=>by rw[l,m,o];exact EB c b A n a W (hb.below p)
 have al:Hid (∀(W:World) (v u:Value) (d:List Bool),SG vB false W v d->SG vB false W u d->Calls Tryz.prog 27 #[v,u] W λe w'=>e= .returned (.bool true)/\Below W.heap.size W w'):=λW v u d H J=>by
  obtain⟨K,n1,c1,rfl,M⟩:=H.parts;obtain⟨N,n2,O,rfl,P⟩:=J.parts;have h:=Aj K n1 c1 d N n2 O d W M P;rw[decide_eq_true rfl]at h;exact h
 have am:Hid (∀W,Calls Tryz.prog 11 #[] W λe w'=>e= .returned (.bool true)/\Below W.heap.size W w'):=λW=>AT W;clear q r l m o hb;go_enter Tryz.func9,Tryz.ntmps9
 go_wp2_with(first
  |(go_at_call 23;refine(Z.out _).mono ?_;rintro e Q ⟨v1,rfl,t,B⟩;have ap:=Lib.hid t;have av:Hid (Below w.heap.size w Q):=B;clear t B)
  |(go_at_call 24;refine(ab.out _).mono ?_;rintro e S ⟨T,rfl,C,s⟩;have a0:=Lib.hid C;have D:Hid (Below w.heap.size w S):=aa av.out s;have a1:=Lib.hid (ap.out.below s);clear C s)
  |(go_at_call 25;refine(ac.out _ D.out).mono ?_;rintro e U ⟨rfl,i⟩;have E:Hid (Below w.heap.size w U):=aa D.out i;have a2:=Lib.hid (a1.out.below i);have a3:=Lib.hid (a0.out.below i);clear i)
  |(go_at_call 26;refine(ad.out _ E.out).mono ?_;rintro e V ⟨rfl,j⟩;have a4:Hid (Below w.heap.size w V):=aa E.out j;have a5:=Lib.hid (a2.out.below j);have a6:=Lib.hid (a3.out.below j);clear j)
  |(go_at_call 27;refine(al.out _ v1 T _ a5.out a6.out).mono ?_;rintro e X ⟨rfl,F⟩;have a7:Hid (Below w.heap.size w X):=aa a4.out F;clear F)
  |(go_at_call 11;refine(am.out _).mono ?_;rintro e Y ⟨rfl,G⟩;have a8:Hid (Below w.heap.size w Y):=aa a7.out G;clear G))
 go_ret;exact⟨rfl,a8.out⟩
end
section
open Go.ChangeShapes Go.WideShapes Go.ChangeAt Go.RowKit
theorem k0:Rows.aztecModesRow.wf (OpenSpec.ofChange Rows.aztecModesSpec)=true:=oK
theorem k3:Tryz.f9.params.all (Tryz.prog.readableRec ·)=true:=oK
theorem k4:namedTie Tryz.prog Rows.aztecModesRow.named Rows.aztecModesSpec.vars=true:=oK
theorem k5:(Rows.aztecModesRow.stops==[])=true:=oK
theorem k7:(Rows.aztecModesRow.knobs==[])=true:=oK
theorem k9:(Rows.aztecModesRow.inPlace==Tryz.prog.inPlace 9)=true:=oK
theorem k10:(Rows.aztecModesRow.unfollowed==Tryz.prog.unfollowed 9)=true:=oK
theorem k11:(Rows.aztecModesRow.recurses==Tryz.prog.recurses 9)=true:=oK
theorem k12:(Rows.aztecModesRow.named==Tryz.prog.varsNamed 9)=true:=oK
theorem k13:(Rows.aztecModesRow.maps==(Tryz.f9.params.toList++Rows.aztecModesSpec.plain.varTypes Tryz.prog).any (Tryz.prog.mapsRec ·))=true:=oK
theorem k14:(Rows.aztecModesRow.ifaces==(Tryz.f9.params.toList++Rows.aztecModesSpec.plain.varTypes Tryz.prog).any (Tryz.prog.ifacesRec ·))=true:=oK
theorem k15:(Rows.aztecModesRow.mapsOut==Tryz.prog.mapsAmong Tryz.f9.resultTypes.toList)=true:=oK
theorem k16:(Rows.aztecModesRow.loops==(Tryz.f9.params.toList++Rows.aztecModesSpec.plain.varTypes Tryz.prog).any (Tryz.prog.loopsFrom ·))=true:=oK
theorem k17:(Rows.aztecModesRow.wideKeys==(Tryz.f9.params.toList++Rows.aztecModesSpec.plain.varTypes Tryz.prog++Tryz.f9.resultTypes.toList).any (Tryz.prog.wideKeysFrom ·))=true:=oK
theorem k18:Rows.aztecModesSpec.vars.all (Tryz.prog.varReadable ·)=true:=oK
theorem k19:Tryz.f9.resultTypes.all (λt=>Tryz.prog.readableRec t&&decide (t<Tryz.prog.types.size))=true:=oK
theorem k20:(Rows.aztecModesRow.ifacesOut==Tryz.f9.resultTypes.toList.any (Tryz.prog.ifacesRec ·))=true:=oK
theorem k21:(Rows.aztecModesRow.loopsOut==Tryz.f9.resultTypes.toList.any (Tryz.prog.loopsFrom ·))=true:=oK
theorem k22:(Rows.aztecModesRow.plainKeys==Tryz.prog.plainKeys)=true:=oK
theorem k23:Rows.aztecModesRow.shortTexts.isNone=true:=oK
theorem k26:(Rows.aztecModesRow.lifted==Tryz.prog.liftsFinal)=true:=oK
theorem k27:(Tryz.prog.make==some Rows.aztecModesRow.make)=true:=oK
theorem k28:(Rows.aztecModesRow.kinds==(if Rows.aztecModesRow.domain.isEmpty then[]else Tryz.f9.params.toList.map λt=>match Tryz.prog.underlying t with|some (.int k)=>some k|_=>none))=true:=oK
theorem k29:(Rows.aztecModesRow.pinned==Rows.aztecModesRow.pinnedBy)=true:=oK
theorem k30:(Rows.aztecModesRow.veiled==(Tryz.f9.params.toList++Rows.aztecModesSpec.plain.varTypes Tryz.prog++Tryz.f9.resultTypes.toList).any (Tryz.prog.veiledRec ·))=true:=oK
theorem k31:Rows.aztecModesRow.veiledFits Tryz.prog Tryz.f9.params.toList (Tryz.f9.params.toList++Rows.aztecModesSpec.plain.varTypes Tryz.prog++Tryz.f9.resultTypes.toList)=true:=oK
theorem closedK:joinedFacts Tryz.prog 9 Tryz.f9 Rows.aztecModesSpec Rows.aztecModesRow=true:=cM (cM (cM (cM (cM (cM (cM (cM (cM (cM (cM (cM (cM (cM (cM (cM (cM (cM (cM (cM (cM (cM (cM (cM (cM (cM (cM (cM (cM (cM (cM k0 Km) BL) k3) k4) k5) Jh) k7) zM) k9) k10) k11) k12) k13) k14) k15) k16) k17) k18) k19) k20) k21) k22) k23) yR) Cm) k26) k27) k28) k29) k30) k31
abbrev L:List (String×DataW Unit):=[("unicode/utf8.acceptRanges",Rows.laid_unicode_utf8_acceptRanges),("unicode/utf8.first",Rows.laid_unicode_utf8_first)]
theorem lifted (os:Os) (N:os.Started) (H:Type) (enc:TypeId×Value->H):
 ReturnsInHanded {} Tryz.checked os 9 .any (λw args=>(Rows.aztecModesSpec.pre enc Tryz.prog Tryz.f9 [] false w args/\laidMetH Tryz.prog L w)/\sizedMet enc Tryz.prog Tryz.f9 (OpenSpec.ofChange Rows.aztecModesSpec) false w args)
  (Rows.aztecModesSpec.post enc Tryz.prog Tryz.f9 false true false false):=by
 refine returnsInHanded_of_change_and (C:=Tryz.checked) (X:=λw _=>laidMetH Tryz.prog L w) (λ_ _ _ i h=>h.of_heap i) MG N oK Tryz.func9
  (ChangeSpec.witness_shaped (enc:=enc) (C:=Tryz.checked) (os:=os) (X:=λw _=>laidMetH Tryz.prog L w) false (World.laidAll Tryz.prog os L) #[.int .i64 0,.int .i64 0,.bool false,.slice none 0 0] 8 (World.laidAll_os _ _ _)
   (World.shaped_of_ZipB oK oK) oK oK oK
   (by rw[MakeChecks.laidMetH_plain _ _ _ oK];exact laidMet_laidAll _ oK oK)) ?_
 intro W base args k O a9 M b _ _ P _;have a:∀(j:Nat) t v,Tryz.f9.params[j]?=some t->args[j]?=some v->Value.okWide Tryz.prog W .any base t v:=M;have G:=b;obtain⟨p,q,J,l,rfl,ap,av⟩:=b;have c:DataW.TrodAll enc Tryz.prog W 0 (λ_=>true) true Tryz.f9.params.toList args.toList k p:=J;rw[Tryz.params9]at c a;obtain⟨v0,a0,Q,a1,S,T,a8,rfl,rfl,m,n⟩:=trodAll_cons c;obtain⟨v1,a2,U,a3,p1,V,rfl,rfl,rfl,o,r⟩:=trodAll_cons n;obtain⟨d,a4,Y,a5,p2,Z,rfl,rfl,rfl,s,u⟩:=trodAll_cons r;obtain⟨f,a6,ab,a7,ac,ad,rfl,rfl,rfl,x,y⟩:=trodAll_cons u;obtain⟨rfl,rfl,rfl⟩:=trodAll_nil y;obtain rfl:args=#[v0,v1,d,f]:=by cases args;simp_all
 obtain⟨rfl,rfl⟩:=trodVars_none l;have K:∀t∈Tryz.f9.params.toList,Tryz.prog.readableRec t=true/\t<Tryz.prog.types.size:=by
  rw[Tryz.params9];intro t g;simp only[List.mem_cons,List.not_mem_nil,or_false]at g;rcases g with rfl|rfl|rfl|rfl<;>exact⟨by kernel_rfl,of_decide_eq_true oK⟩
 obtain⟨x0,rfl,rfl,rfl,w0⟩:=open_int Tryz.underlying3 (a 0 3 v0 rfl rfl) m;obtain⟨z,rfl,rfl,rfl,al⟩:=open_int Tryz.underlying3 (a 1 3 v1 rfl rfl) o;obtain⟨A,rfl,rfl,rfl⟩:=open_bool Tryz.underlying4 (a 2 4 d rfl rfl) s;obtain⟨B,n3,D,E,rfl,s3⟩:=JD (a 3 26 f rfl rfl) x;refine(law_walk x0 z A B n3 D E W s3).mono λe am ⟨F,hb⟩=>?_;subst F;exact⟨_,rfl,Il Ms Tryz.underlying4 rfl rfl K G rfl hb⟩
theorem over:Rows.aztecModesRow.holds Tryz.pinned (OpenSpec.ofChange Rows.aztecModesSpec):=
 OpenClaim.holds_of_wide 9 Tryz.f9 rfl rfl rfl rfl rfl rfl rfl ⟨rfl,rfl,rfl,rfl,rfl⟩ rfl rfl rfl rfl rfl oK Tryz.func9 closedK
  (of_decide_eq_true oK) (by unfold Func.isWrapper;first|(rw[if_pos (by decide+kernel)];kernel_rfl)|(rw[if_neg (by decide+kernel)];exact⟨rfl,rfl⟩))
  (λos a H enc _=>lifted os a H enc)
theorem named:Tryz.prog.funcNamed "barscan/barscanlaw28.AztecModes" =some 9:=oK
theorem noStand:([26,4,3].all λu=>!Tryz.prog.wantsStandIn u)=true:=oK
theorem proved:Rows.AztecModesCardSaid:=
 Claim7.holds_tied_plain_at .later [] [.data,.pinned] true (true,"65e349eac71c602cf550908973254ebb7b14ef88971fe42e5ec397cea621a45b") false
  over (λ_ h=>by cases h) oK (λ_ h=>by cases h) aztecModes_row_tie rfl ⟨rfl,rfl⟩ oK rfl
  (λf fn b d=>by
   obtain rfl:f=9:=Option.some.inj (named.symm.trans b)|>.symm;obtain rfl:fn=Tryz.f9:=(Option.some.inj (Tryz.func9.symm.trans d)).symm
   exact⟨by kernel_rfl,λj t a=>by
    rw[Tryz.params9]at a;have c:t∈[26,4,3]:=by
     have h:=Array.mem_of_getElem? a;simp only[List.mem_toArray,List.mem_cons,List.not_mem_nil,or_false]at h;rcases h with rfl|rfl|rfl|rfl<;>simp
    exact(show Tryz.prog.wantsStandIn t=false by simpa using List.all_eq_true.1 noStand t c)⟩)
  oK
end
end Go.Proofs.YtmnlkganmgcpbaaGreatDoor.aztecModes
