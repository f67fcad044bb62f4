/- DERIVED by an AI agent. -/
import Derived.Test.YtdomcincpocchaaGreatDoorLawExecuteLine
import Derived.Test.YtdomcincpocchaaGreatDoorRJ1
import Derived.Test.YtdomcincpocchaaGreatDoorRJ2
import Derived.Test.YtdomcincpocchaaGreatDoorF1
import Derived.WalkKit
import Derived.ProofKit
import Derived.Lay
import Derived.SevenTiedAt
import Derived.Test.YtdomcincpocchaaGreatDoorRows
import Derived.Test.YtdomcincpocchaaGreatDoorCards
import Derived.Test.YtdomcincpocchaaGreatDoorTie
namespace Go.Proofs.YtdomcincpocchaaGreatDoor.fnExactExecuteLine
open Go.ChangeShapes Go.WideShapes Go.ChangeAt Go.RowKit Go.Abs
theorem own:ownKnob Tryz.prog.godebug=none:=kr
theorem laid:laidOutB Tryz.prog=true:=kr
theorem params_ok:∀t∈Tryz.f3.params.toList,Tryz.prog.readableRec t=true/\t<Tryz.prog.types.size:=by
 intro t ht
 rw[Tryz.params3]at ht
 simp at ht
 rcases ht with rfl|rfl<;>exact⟨kr,of_decide_eq_true kr⟩
set_option maxRecDepth 100000 in
theorem read_Session {H:Type} {enc:TypeId×Value->H} {W:World} {base:Nat} {v:Value} {d:DataW H} {ps:List MemPlace} (hv:Value.okWide Tryz.prog W .any base 26 v) (h:DataW.Trod enc Tryz.prog W 0 (λ_=>true) true 26 v d ps) :
 ∃(k:Int) (xs:List Int) (l:Int) (ys:List Int),qL W (.ag [al k,aE xs,al l,aE ys]) v:=by
 obtain⟨c,rfl,hc⟩:=okWide_struct Tryz.underlying26 hv
 obtain⟨fuel,h⟩:=h
 obtain⟨y0,y1,n,_,hlen,h0,h1⟩:=trod_struct2 Tryz.underlying26 h
 have e30:Tryz.prog.cellsOf 26=4:=kr
 have e28:Tryz.prog.cellsOf 24=2:=kr
 have e3:Tryz.prog.cellsOf 3=1:=kr
 have e26:Tryz.prog.cellsOf 22=1:=kr
 have hlen:c.toList.length=4:=by rw[<- e30];exact hlen
 have h0:DataW.trod enc Tryz.prog W 0 (λ_=>true) true n 24 ((c.toList.drop 0).take 2)=some y0:=by rw[<- e28];exact h0
 have h1:DataW.trod enc Tryz.prog W 0 (λ_=>true) true n 24 ((c.toList.drop 2).take 2)=some y1:=by rw[<- e28];exact h1
 obtain⟨a,b,x,y,e⟩:∃a b x y,c.toList=[a,b,x,y]:=by
  match c.toList,hlen with
  | [a,b,x,y],_=>exact⟨a,b,x,y,rfl⟩
 rw[e]at h0 h1
 obtain⟨z0,z1,m,_,_,k0,k1⟩:=trod_struct2 Tryz.underlying24 h0
 obtain⟨u0,u1,m2,_,_,l0,l1⟩:=trod_struct2 Tryz.underlying24 h1
 have k0:DataW.trod enc Tryz.prog W 0 (λ_=>true) true m 3 [a]=some z0:=by
  have k:DataW.trod enc Tryz.prog W 0 (λ_=>true) true m 3 ([a,b].take (Tryz.prog.cellsOf 3))=some z0:=k0
  rw[e3]at k;exact k
 have k1:DataW.trod enc Tryz.prog W 0 (λ_=>true) true m 22 [b]=some z1:=by
  have k:DataW.trod enc Tryz.prog W 0 (λ_=>true) true m 22 ([b].take (Tryz.prog.cellsOf 22))=some z1:=k1
  rw[e26]at k;exact k
 have l0:DataW.trod enc Tryz.prog W 0 (λ_=>true) true m2 3 [x]=some u0:=by
  have k:DataW.trod enc Tryz.prog W 0 (λ_=>true) true m2 3 ([x,y].take (Tryz.prog.cellsOf 3))=some u0:=l0
  rw[e3]at k;exact k
 have l1:DataW.trod enc Tryz.prog W 0 (λ_=>true) true m2 22 [y]=some u1:=by
  have k:DataW.trod enc Tryz.prog W 0 (λ_=>true) true m2 22 ([y].take (Tryz.prog.cellsOf 22))=some u1:=l1
  rw[e26]at k;exact k
 obtain⟨k,ka,_⟩:=PN Tryz.underlying3 k0
 obtain⟨l,la,_⟩:=PN Tryz.underlying3 l0
 obtain⟨xs,v1,kb,r1⟩:=Vq Tryz.underlying22 e3 Tryz.underlying3 k1
 obtain⟨ys,v2,lb,r2⟩:=Vq Tryz.underlying22 e3 Tryz.underlying3 l1
 simp only[List.cons.injEq,and_true]at ka la kb lb
 subst ka la kb lb
 refine⟨k,xs,l,ys,?_⟩
 rw[zuE e]
 exact qL.ag4 (qL.int _ _) r1 (qL.int _ _) r2
theorem laidTab:("internal/strconv.uint64pow10",Go.Lib.tabData .u64 Go.Lib.pow10Tab)∈Rows.fnExactExecuteLineRow.laid:=by
 have e:(Go.Lib.tabData .u64 Go.Lib.pow10Tab:DataW Unit)=Rows.laid_internal_strconv_uint64pow10:=by first|rfl|decide +kernel
 rw[e]
 simp[Rows.fnExactExecuteLineRow]
set_option maxRecDepth 100000 in
theorem lifted (os:Os) (started:os.Started) (H:Type) (enc:TypeId×Value->H) :
 ReturnsInHanded {} Tryz.checked os 3 .any (λw args=>(Rows.fnExactExecuteLineSpec.pre enc Tryz.prog Tryz.f3 [] false w args/\laidMetH Tryz.prog Rows.fnExactExecuteLineRow.laid w)/\sizedMet enc Tryz.prog Tryz.f3 (OpenSpec.ofChange Rows.fnExactExecuteLineSpec) false w args) (Rows.fnExactExecuteLineSpec.post enc Tryz.prog Tryz.f3 false true false false):=by
 refine returnsInHanded_of_change_and (C:=Tryz.checked) (X:=λw _=>laidMetH Tryz.prog Rows.fnExactExecuteLineRow.laid w) (λ_ _ _ hh h=>h.of_heap hh) own started kr Tryz.func3
  (ChangeSpec.witness_shaped (enc:=enc) (C:=Tryz.checked) (os:=os) (X:=λw _=>laidMetH Tryz.prog Rows.fnExactExecuteLineRow.laid w) false (World.laidAll Tryz.prog os Rows.fnExactExecuteLineRow.laid) #[.agg #[.int .i64 0,.slice none 0 0,.int .i64 0,.slice none 0 0],.string ⟨#[]⟩] 8 (World.laidAll_os _ _ _)
   (World.shaped_of_ZipB kr kr) kr kr kr
   (by rw[MakeChecks.laidMetH_plain _ _ _ kr];exact laidMet_laidAll _ kr kr)) ?_
 intro W base args ds gs before hval0 hW _ _ hL _
 rw[MakeChecks.laidMetH_plain _ _ _ kr]at hL
 have hPhi:aw.Φ W:=ziZ zs2 kr Tryz.underlying205 Tryz.underlying94 kr kr hL laidTab
 have hval:∀(j:Nat) t v,Tryz.f3.params[j]?=some t->args[j]?=some v->Value.okWide Tryz.prog W .any base t v:=hval0
 have hW':=hW
 obtain⟨p,q,hA0,hV,rfl,hfz,hnd⟩:=hW
 have hA:DataW.TrodAll enc Tryz.prog W 0 (λ_=>true) true Tryz.f3.params.toList args.toList ds p:=hA0
 rw[Tryz.params3]at hA hval
 obtain⟨v0,vs0,d0,ds0,p0,q0,hargs0,rfl,rfl,h0,r0⟩:=trodAll_cons hA
 obtain⟨v1,vs1,d1,ds1,p1,q1,hargs1,rfl,rfl,h1,r1⟩:=trodAll_cons r0
 obtain⟨rfl,rfl,rfl⟩:=trodAll_nil r1
 obtain rfl:args=#[v0,v1]:=by cases args;simp_all
 obtain⟨rfl,rfl⟩:=trodVars_none hV
 obtain⟨k0,xs0,l0,ys0,hr0⟩:=read_Session (hval 0 26 v0 rfl rfl) h0
 obtain⟨x1,rfl⟩:=okWide_string Tryz.underlying9 (hval 1 9 v1 rfl rfl)
 refine((ti k0 xs0 l0 ys0 x1).law hPhi (vals:=[v0,.string x1]) ⟨hr0,qL.val _,trivial⟩).mono λe W' ⟨he,hx⟩=>?_
 subst he
 exact⟨_,rfl,zki laid params_ok rfl hW' rfl rfl rfl rfl Tryz.underlying4 hx⟩
set_option maxRecDepth 100000 in
theorem jf:joinedFacts Tryz.pinned.checked.prog 3 Tryz.f3 Rows.fnExactExecuteLineSpec Rows.fnExactExecuteLineRow=true:=by
 unfold joinedFacts
 exact Bool.and_eq_true_iff.2 ⟨Bool.and_eq_true_iff.2 ⟨Bool.and_eq_true_iff.2 ⟨Bool.and_eq_true_iff.2 ⟨Bool.and_eq_true_iff.2 ⟨Bool.and_eq_true_iff.2 ⟨Bool.and_eq_true_iff.2 ⟨Bool.and_eq_true_iff.2 ⟨Bool.and_eq_true_iff.2 ⟨Bool.and_eq_true_iff.2 ⟨Bool.and_eq_true_iff.2 ⟨Bool.and_eq_true_iff.2 ⟨Bool.and_eq_true_iff.2 ⟨Bool.and_eq_true_iff.2 ⟨Bool.and_eq_true_iff.2 ⟨Bool.and_eq_true_iff.2 ⟨Bool.and_eq_true_iff.2 ⟨Bool.and_eq_true_iff.2 ⟨Bool.and_eq_true_iff.2 ⟨Bool.and_eq_true_iff.2 ⟨Bool.and_eq_true_iff.2 ⟨Bool.and_eq_true_iff.2 ⟨Bool.and_eq_true_iff.2 ⟨Bool.and_eq_true_iff.2 ⟨Bool.and_eq_true_iff.2 ⟨Bool.and_eq_true_iff.2 ⟨Bool.and_eq_true_iff.2 ⟨Bool.and_eq_true_iff.2 ⟨Bool.and_eq_true_iff.2 ⟨Bool.and_eq_true_iff.2 ⟨Bool.and_eq_true_iff.2 ⟨j0,j1⟩,j2⟩,j3⟩,j4⟩,j5⟩,j6⟩,j7⟩,j8⟩,j9⟩,j10⟩,j11⟩,j12⟩,j13⟩,j14⟩,j15⟩,j16⟩,j17⟩,j18⟩,j19⟩,j20⟩,j21⟩,j22⟩,j23⟩,j24⟩,j25⟩,j26⟩,j27⟩,j28⟩,j29⟩,j30⟩,j31⟩
theorem over:Rows.fnExactExecuteLineRow.holds Tryz.pinned (OpenSpec.ofChange Rows.fnExactExecuteLineSpec) :=
 OpenClaim.holds_of_wide 3 Tryz.f3 rfl rfl rfl rfl rfl rfl rfl ⟨rfl,rfl,rfl,rfl,rfl⟩ rfl rfl rfl rfl rfl kr Tryz.func3 jf
  (of_decide_eq_true kr) (by unfold Func.isWrapper;first|(rw[if_pos (by decide +kernel)];kernel_rfl)|(rw[if_neg (by decide +kernel)];exact⟨rfl,rfl⟩))
  (λos started H enc _=>lifted os started H enc)
theorem proved:Rows.FnExactExecuteLineCardSaid :=
 Claim7.holds_tied_plain_at .later [] [.data,.data,.data] true Rows.fnExactExecuteLineCard.stood.harness false over (λ_ h=>by cases h) jw (λ_ h=>by cases h) fnExactExecuteLine_row_tie rfl ⟨rfl,rfl⟩ kr rfl
  (λf fn hf hfn=>by
   obtain rfl:f=3:=Option.some.inj ((show Tryz.prog.funcNamed "loop.example/g03100/laws.FnExactExecuteLine" = some 3 by kernel_rfl).symm.trans hf) |>.symm
   obtain rfl:fn=Tryz.f3:=(Option.some.inj (Tryz.func3.symm.trans hfn)).symm
   exact⟨kr,λj t ht=>by
    rw[Tryz.params3]at ht
    have hm:t∈[26,9]:=by simpa using Array.mem_of_getElem? ht
    have hall:([26,9].all λu=>!Tryz.prog.wantsStandIn u)=true:=kr
    exact(show Tryz.prog.wantsStandIn t=false by simpa using List.all_eq_true.1 hall t hm)⟩)
  jg
#print axioms proved
end Go.Proofs.YtdomcincpocchaaGreatDoor.fnExactExecuteLine
