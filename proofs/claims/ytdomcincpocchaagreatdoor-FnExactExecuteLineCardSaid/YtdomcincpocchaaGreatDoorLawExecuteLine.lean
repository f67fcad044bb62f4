/- DERIVED by an AI agent. -/
import Derived.Test.YtdomcincpocchaaGreatDoorQ10
set_option linter.all false
namespace Go.Proofs.YtdomcincpocchaaGreatDoor
open List renaming length→lh
open Go.Proofs.Tryz
open Go.Abs
variable (n:Int)(d:P0)(m:Int)(b:P0)
theorem LG(s:St)(d e b f a:Nat)(x y z:Value)(c c2:O0):br s d (.tup [.ag [.im (.v x),.fr e b c,.im (.v y),.fr f a c2],.im (.v z)])=((s.row (d+1000) ⟨(s.rw (d+1000)).ver+1,.sli f a false c2⟩).row d ⟨(s.rw d).ver+1,.sli e b false c⟩).put (some d) (.tup [.ag [.v x,.own d ((s.rw d).ver+1),.v y,.own (d+1000) ((s.rw (d+1000)).ver+1)],.v z]):=by unfold br;simp[iv,fq,bo,cM,eu,gN,fL,fP,bz,St.row,mY];rfl
def szS(l:Int)(a b:Nat):Int:=if szI l a<0 then -1 else szI (szI l a) b
theorem zuR{l:Int}{a:Nat}(h:l<=1048576):szI l a<=1048576:=by unfold szI;split<;>omega
theorem GD(l:Int)(f:0<=l)(e:l<=1048576):AC prog 4 [.ag [al n,aE d,al m,aE b],al l] (.im (al (szS l (lh d) (lh b)))):=by
 refine cA [.tmp 4] func4 λk=>?_;refine aR (aa (vE n d l f e) ?_);unfold szS;have g:=zuR (a:=lh d) e;generalize szI l (lh d)=a at *;refine aR ?_;refine⟨λh=>?_,λh=>aa (vE m b a om g) ?_⟩;rw[ae h];rw[ac om];have i:szI a (lh b)<0->szI a (lh b)=-1:=λh=>by unfold szI at *;split at h<;>omega
 generalize szI a (lh b)=c at *;exact aR (λj=>i j)
theorem GF(c:lh d<=1048576)(a:lh b<=1048576):AC prog 6 [.ag [al n,aE d,al m,aE b]] (.ag [.im (al n),.fr 3 1 (iL d),.im (al m),.fr 3 1 (iL b)]):=by refine cA [.cell 2 30] func6 λe=>?_;refine aR (aa (vF n d c) ?_);refine aR (aa (vF m b a) ?_);exact ef
theorem zsV(t:S0)(a:lh d<=1048576)(c:lh b<=1048576):(exE n d m b t).1.2.1.length<=1048576/\(exE n d m b t).1.2.2.2.length<=1048576:=by have:=zeV m b (dO t 32) a (n:=n);unfold exE;split;exact⟨a,a⟩;split;exact⟨c,a⟩;split;split;exact⟨this,c⟩;exact⟨a,c⟩;exact⟨a,c⟩
theorem ti(t:S0):AC prog 3 [.ag [al n,aE d,al m,aE b],fa t] (.im (aU true)):=by
 refine cA [.tmp 4] func3 λy=>?_;refine aR ?_;intro z;refine aa (GD n d m b 1048576 dc dc) ?_;refine aR ?_;intro x;have s:lh d<=1048576/\b.length<=1048576:=by unfold szS szI at x;constructor<;>(repeat' split at x)<;>omega
 obtain⟨k,l⟩:=s;have e:=GF n d m b k l;have o:=Ck n d m b t k l om;have f:=Cj n d m b t k l om;obtain⟨g,h⟩:=zsV n d m b t k l;generalize exE n d m b t=r at *;obtain⟨⟨a,j,c,us⟩,w⟩:=r;unfold seT at o f;refine aa e ?_;refine aR (aa o ?_);refine cZ @LG (aa e ?_);refine aR (aa f ?_);refine cZ @LG (aa (mU _ _ _ _ _ _ _ _) ?_);have q:(w.toList != w.toList)=false:=sp;refine ff @xl q ?_;refine⟨kr,aa e ?_⟩;refine aR (aa (mU _ _ _ _ _ _ _ _) ?_);refine ff @xl q ?_;refine⟨kr,oJ (sV n m d b 1 k l om om) [(32,1),(1032,1)] (by repeat (first|exact GiveL.nil|refine GiveL.v ?_|refine GiveL.clo ?_|refine GiveL.own 0 rfl ?_|refine GiveL.own 1 rfl ?_|refine GiveL.ag ?_ ?_)) ⟨by simp -dsimp only[gr,simprocAttr],by simp -dsimp only[gr,simprocAttr],trivial⟩ dc ?_⟩;have u:decide (1+(lh d:Int)+(lh b:Int)<0)=false:=aD om;refine cZ u (aa (mU _ _ _ _ _ _ _ _) ?_);refine ff @xl q ?_;refine oJ (sV a c j us 1 g h om om) [(36,1),(1036,1)] (by repeat (first|exact GiveL.nil|refine GiveL.v ?_|refine GiveL.clo ?_|refine GiveL.own 0 rfl ?_|refine GiveL.own 1 rfl ?_|refine GiveL.ag ?_ ?_)) ⟨by simp -dsimp only[gr,simprocAttr],by simp -dsimp only[gr,simprocAttr],trivial⟩ dc ?_;have i:decide (1+(lh j:Int)+(lh us:Int)<0)=false:=aD om;have p:(1+(lh j:Int)+(lh us:Int) != 1+(lh j:Int)+(lh us:Int))=false:=sp;refine cZ i ?_;refine aa (sW _ _ 1 (lh j) (lh us) g h om om) ?_;refine ff i p (aa e ?_);refine aR (aa f ?_);refine cZ @LG (aa (mU _ _ _ _ _ _ _ _) ?_);refine ff @xl q ?_;refine aa (sW _ _ 1 (lh j) (lh us) g h om om) ?_;exact DL i p
end Go.Proofs.YtdomcincpocchaaGreatDoor
