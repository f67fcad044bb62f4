/- DERIVED by an AI agent. -/
import Derived.Test.YtchlggfghabgoaaGreatDoorQ10
set_option linter.all false
namespace Go.Proofs.YtchlggfghabgoaaGreatDoor
open List renaming getD→lg,length→lh
open Go.Proofs.Tryz
open Go.Abs
theorem Ma(q:N0):AC prog 3 [.sl false 1 (kL .u8 q)] (.im (aU true)):=by
 refine cA [.tmp 2] func3 λX=>?_;refine aR ?_;refine aa (Yg q) ?_;refine aR ?_;intro J;refine ze9 (Ek q om) (.one (.sl _ _ _) .nil) λrv⟨t,u,p⟩=>?_;subst u;have C:=Lb t p;have D:=Jp t p;unfold ruR at C D;have E:=zkk t;have K:decide (lh (dO t 10)<=40)=false->ruO t=[]:=λh=>ac (of_decide_eq_false h);have M:decide (lh (dO t 10)<=40)=true->ruO t=(lb (dO t 10)).2/\(dO t 10).length<=40:=λh=>⟨ae (cH h),cH h⟩;have j:∀i,i<lh (dO t 10)->(lg (dO t 10) i ⟨#[]⟩).size<=2000000:=λi F=>aJ (zU (aP ⟨#[]⟩ F)) p;have x:=iT t 10 p;generalize ruO t=O at *;generalize decide (lh (dO t 10)<=40)=B at *;generalize dO t 10=L at *;refine aR ?_;refine aa D ?_;refine aR ?_;refine aa C ?_;have G:(B != B)=false:=by cases B<;>rfl
 simp -dsimp only[↓gp,gq,simprocAttr,gT,G];refine aa (Mz O om) ?_;refine cZ G ?_;refine⟨λh=>?_,λh=>?_⟩
 ·have h:B=false:=ss h;rw[K h];rfl
 ·have h:B=true:=ss h;obtain⟨rfl,N⟩:=M h;have o:=Ar;have k:(lb (L.take 0))=((((xJ 1:Nat):Int),mu (FI 1),((xJ 1:Nat):Int),mu (FI 1)),[]):=rfl;unfold Zb at o;refine aa o ?_;refine aR ?_;refine aa x ?_;have l:=MD L;refine cZ l ?_;refine az (λ((i,c,v,w):Nat×Bool×Nat×Nat) s=>(s.sl 4=.own 18 1/\s.rw 18=⟨1,.sli 9 1 false (sL (lb L).2)⟩/\s.sl 9=.own 42 1/\s.rw 42=⟨1,.sli 9 1 false (sL L)⟩/\s.sl 8=.ref 8 1 0/\s.rw 8=⟨1,.box 33 [al (lb (L.take i)).1.1,.own (if c then 55 else 40) v,al (lb (L.take i)).1.2.2.1,.own (if c then 1055 else 1040) w]⟩/\s.sl 10=al i)/\(i<=lh L/\s.rw (if c then 55 else 40)=⟨v,.sli 3 1 false (iL (lb (L.take i)).1.2.1)⟩/\s.rw (if c then 1055 else 1040)=⟨w,.sli 3 1 false (iL (lb (L.take i)).1.2.2.2)⟩)) (λ(i,c,v,w)=>lh L-i) ((0,false,1,1)) ⟨(jX k),⟨aB _,by simp -dsimp only[gr,simprocAttr,k],by simp -dsimp only[gr,simprocAttr,k]⟩⟩ ?_;intro(i,c,v,w) H ⟨m,y⟩;obtain⟨F,d,f⟩:=y;obtain⟨Q,R⟩:=zfY (L.take i);rcases bf i (lh L) with a|S
  ·have b:=Ed L a;have g:=zoz L a;unfold Yj at b;have I:=Cj (lb (L.take i)).1.1 (lb (L.take i)).1.2.1 (lb (L.take i)).1.2.2.1 (lb (L.take i)).1.2.2.2 (lg L i ⟨#[]⟩) Q R (j i a);generalize Yk (lb (L.take i)).1.1 (lb (L.take i)).1.2.1 (lb (L.take i)).1.2.2.1 (lb (L.take i)).1.2.2.2 (lg L i ⟨#[]⟩)=r at *;generalize lb (L.take i)=e at *;obtain⟨⟨Y,U,Z,V⟩,z⟩:=r;unfold seT at I;have n:((i:Int)<(lh L:Int))=True:=bO om;have A:((lh L:Int)<=(i:Int))=False:=aX om;have W:(z.toList != z.toList)=false:=sp;have g:(lb L).2.getD i ⟨#[]⟩=z:=g;cases c<;>simp only[eW,eP,gx]at m d f
   all_goals
    refine ox m d f n ?_
    refine⟨kr,a,aa I ?_⟩
    refine XO m d f @LG l A g W ?_
   ·exact⟨kr,a,a,ah ((i+1,true,(H.rw 55).ver+1,(H.rw 1055).ver+1)) ⟨(fB m b (ak a om)),⟨a,by simp -dsimp only[gr,simprocAttr,b],by simp -dsimp only[gr,simprocAttr,b]⟩⟩⟩
   ·exact⟨kr,a,a,ah ((i+1,true,v+1,w+1)) ⟨(fB m b (ak a om)),⟨a,by simp -dsimp only[gr,simprocAttr,b],by simp -dsimp only[gr,simprocAttr,b]⟩⟩⟩
  ·obtain rfl:i=lh L:=om;have n:((lh L:Int)<(lh L:Int))=False:=aX om;cases c<;>simp only[eW,eP,gx]at m d f
   all_goals
    exact xd5 m d f n l
end Go.Proofs.YtchlggfghabgoaaGreatDoor
