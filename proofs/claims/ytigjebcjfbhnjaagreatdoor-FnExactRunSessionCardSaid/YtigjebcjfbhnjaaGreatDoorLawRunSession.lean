/- DERIVED by an AI agent. -/
import Derived.Test.YtigjebcjfbhnjaaGreatDoorQ10
set_option linter.all false
namespace Go.Proofs.YtigjebcjfbhnjaaGreatDoor
open List renaming length→lh
open Go.Proofs.Tryz
open Go.Abs
theorem kb(t:P0):AC prog 3 [fa t] (.im (aU true)):=by
 refine cA [.tmp 2] func3 λi=>?_;refine aR ?_;intro j;have c:=Am t om;have b:=Al t om;unfold ruR at c b;have d:=ZE t;generalize ruO t=O at *;generalize decide (lh (dO t 10)<=40)=B at *;refine aa c ?_;refine aR ?_;refine aa b ?_;refine aR ?_;refine aa (la O om) ?_;have a:(B != B)=false:=by cases B<;>rfl
 refine cZ a ?_;have h:=yv O 1 dc om;have e:=yx 1 (lh O) dc om;have f:decide (((1+lh O:Nat):Int)<0)=false:=aD om;have g:(((1+lh O:Nat):Int) != ((1+lh O:Nat):Int))=false:=sp;refine oJ h [(21,1)] (by repeat (first|exact GiveL.nil|refine GiveL.v ?_|refine GiveL.clo ?_|refine GiveL.own 0 rfl ?_|refine GiveL.own 1 rfl ?_|refine GiveL.ag ?_ ?_)) ⟨by simp -dsimp only[gr,simprocAttr],trivial⟩ dc ?_;refine cZ a ?_;refine aa e ?_;refine iD a f g ?_;refine aa b ?_;refine cZ a ?_;refine aa (la O om) ?_;refine cZ a ?_;refine aa e ?_;exact RY a f g
end Go.Proofs.YtigjebcjfbhnjaaGreatDoor
