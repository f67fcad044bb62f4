/- DERIVED by an AI agent, by a program of its own (mktypes.py). The types of the translation, as the abstract layer reads them. -/
import Derived.Test.YtijabbemjaioeaaGreatDoorRows
import Derived.Test.YtijabbemjaioeaaGreatDoorA13
set_option linter.all false
namespace Go.Proofs.YtijabbemjaioeaaGreatDoor
open Bool renaming false→l0
open Option renaming some→n0,none→o0
open Go.Abs
theorem ze7{t:TypeId}{d:TD}{z:Value}(h:d.k.fits Tryz.prog t)(a:(Tryz.prog.info? t).map (λi=>(i.zero,i.size,i.bytes))=n0 (n0 z,d.size,d.bytes))(c:z.cells.toList=d.zero)(f:d.zero.length=d.size)(g:d.k.agg=l0->d.size=1/\∀z,d.zero=[z]->z.oneCell'=true)(j:d.k.agg=true\/d.zero=[z]):d.Fits Tryz.prog t:=by
 cases b:Tryz.prog.info? t with
 | none=>grind
 | some i =>
   rw[b]at a
   simp at a
   exact⟨h,⟨i,z,b,a.2.1,a.2.2,a.1,c⟩,f,g,j.imp id λe=>⟨i,z,b,a.1,e⟩⟩
theorem Vw{t:TypeId}{k:TK}{b:Nat}{v:Value}(h:k.fits Tryz.prog t)(a:(Tryz.prog.info? t).map (λi=>(i.zero,i.size,i.bytes))=n0 (n0 v,1,b):=by kernel_rfl)(c:v.oneCell'=true:=by rfl)(d:v.cells.toList=[v]:=by rfl):(⟨k,1,b,[v]⟩:TD).Fits Tryz.prog t:=ze7 h a d rfl (λ_=>⟨rfl,λz h=>by grind⟩)<|.inr rfl
theorem KO{t:TypeId}{k:TK}{s b:Nat}{l:List Value}(h:k.fits Tryz.prog t)(a:k.agg=true:=by rfl)(c:(Tryz.prog.info? t).map (λi=>(i.zero,i.size,i.bytes))=n0 (n0 (.agg ⟨l⟩),s,b):=by kernel_rfl)(d:(Value.agg ⟨l⟩).cells.toList=l:=by kernel_rfl)(e:l.length=s:=by kernel_rfl):(⟨k,s,b,l⟩:TD).Fits Tryz.prog t:=ze7 h c d e (λh=>absurd (a.symm.trans h)<|sp)<|.inl a
def tab:List (Nat×TD):=[(2,⟨.int .i64,1,8,[.int .i64 0]⟩),(3,⟨.int .i64,1,8,[.int .i64 0]⟩),(4,⟨.bool,1,1,[.bool l0]⟩),(5,⟨.int .u8,1,1,[.int .u8 0]⟩),(9,⟨.str,1,16,[.string ⟨#[]⟩]⟩),(12,⟨.int .u64,1,8,[.int .u64 0]⟩),(13,⟨.struct [(0,9),(1,12)],2,24,[.string ⟨#[]⟩,.int .u64 0]⟩),(21,⟨.int .i32,1,4,[.int .i32 0]⟩),(22,⟨.sli 5,1,24,[.slice o0 0 0]⟩),(24,⟨.sli 3,1,24,[.slice o0 0 0]⟩),(25,⟨.struct [(0,3),(1,24)],2,32,[.int .i64 0,.slice o0 0 0]⟩),(26,⟨.struct [(0,3),(1,24)],2,32,[.int .i64 0,.slice o0 0 0]⟩),(27,⟨.struct [(0,26),(2,26)],4,64,[.int .i64 0,.slice o0 0 0,.int .i64 0,.slice o0 0 0]⟩),(28,⟨.struct [(0,26),(2,26)],4,64,[.int .i64 0,.slice o0 0 0,.int .i64 0,.slice o0 0 0]⟩),(34,⟨.sli 9,1,24,[.slice o0 0 0]⟩),(51,⟨.struct [(0,26),(2,4),(3,4)],4,40,[.int .i64 0,.slice o0 0 0,.bool l0,.bool l0]⟩),(52,⟨.struct [(0,26),(2,4),(3,4)],4,40,[.int .i64 0,.slice o0 0 0,.bool l0,.bool l0]⟩),(63,⟨.struct [(0,22),(1,3),(2,3)],3,40,[.slice o0 0 0,.int .i64 0,.int .i64 0]⟩),(64,⟨.struct [(0,22),(1,3),(2,3)],3,40,[.slice o0 0 0,.int .i64 0,.int .i64 0]⟩),(83,⟨.int .u64,1,8,[.int .u64 0]⟩),(87,⟨.sli 24,1,24,[.slice o0 0 0]⟩),(101,⟨.int .u64,1,8,[.int .u64 0]⟩),(121,⟨.sli 4,1,24,[.slice o0 0 0]⟩),(137,⟨.struct [(0,136),(1,22)],2,32,[.pointer o0,.slice o0 0 0]⟩),(138,⟨.struct [(0,136),(1,22)],2,32,[.pointer o0,.slice o0 0 0]⟩),(150,⟨.other,1,8,[.nilFunc]⟩),(151,⟨.map 101 3,1,8,[.map o0]⟩),(152,⟨.struct [(0,151)],1,8,[.map o0]⟩),(153,⟨.struct [(0,151)],1,8,[.map o0]⟩),(173,⟨.arr 256 4,256,256,((List.replicate 256 (.bool l0)))⟩),(174,⟨.struct [(0,24),(1,150),(2,173),(258,24)],259,312,([.slice o0 0 0,.nilFunc]++(List.replicate 256 (.bool l0))++[.slice o0 0 0])⟩),(175,⟨.struct [(0,24),(1,150),(2,173),(258,24)],259,312,([.slice o0 0 0,.nilFunc]++(List.replicate 256 (.bool l0))++[.slice o0 0 0])⟩),(182,⟨.int .u32,1,4,[.int .u32 0]⟩),(183,⟨.arr 24 5,24,24,((List.replicate 24 (.int .u8 0)))⟩),(195,⟨.struct [(0,3),(1,24)],2,32,[.int .i64 0,.slice o0 0 0]⟩),(196,⟨.struct [(0,3),(1,24)],2,32,[.int .i64 0,.slice o0 0 0]⟩),(202,⟨.int .i64,1,8,[.int .i64 0]⟩),(208,⟨.arr 20 101,20,160,((List.replicate 20 (.int .u64 0)))⟩),(209,⟨.arr 65 5,65,65,((List.replicate 65 (.int .u8 0)))⟩),(218,⟨.int .u64,1,8,[.int .u64 0]⟩),(228,⟨.arr 32 5,32,32,((List.replicate 32 (.int .u8 0)))⟩),(229,⟨.arr 64 5,64,64,((List.replicate 64 (.int .u8 0)))⟩)]
def T:gg:=λt=>((tab.find? λx=>x.1==t).map (·.2)).getD ⟨.other,0,0,[]⟩
abbrev tj(t:Nat)(k:TK)(s b:Nat)(z:List Value):Prop:=(T t).k=k/\(T t).size=s/\(T t).bytes=b/\(T t).zero=z
theorem zr6{t:Nat}{k:TK}{s b:Nat}{z:List Value}(h:T t=⟨k,s,b,z⟩):tj t k s b z:=by grind
theorem gT:tj 2 (.int .i64) 1 8 [.int .i64 0]/\tj 3 (.int .i64) 1 8 [.int .i64 0]/\tj 4 .bool 1 1 [.bool l0]/\tj 5 (.int .u8) 1 1 [.int .u8 0]/\tj 9 .str 1 16 [.string ⟨#[]⟩]/\tj 12 (.int .u64) 1 8 [.int .u64 0]/\tj 13 (.struct [(0,9),(1,12)]) 2 24 [.string ⟨#[]⟩,.int .u64 0]/\tj 21 (.int .i32) 1 4 [.int .i32 0]/\tj 22 (.sli 5) 1 24 [.slice o0 0 0]/\tj 24 (.sli 3) 1 24 [.slice o0 0 0]/\tj 25 (.struct [(0,3),(1,24)]) 2 32 [.int .i64 0,.slice o0 0 0]/\tj 26 (.struct [(0,3),(1,24)]) 2 32 [.int .i64 0,.slice o0 0 0]/\tj 27 (.struct [(0,26),(2,26)]) 4 64 [.int .i64 0,.slice o0 0 0,.int .i64 0,.slice o0 0 0]/\tj 28 (.struct [(0,26),(2,26)]) 4 64 [.int .i64 0,.slice o0 0 0,.int .i64 0,.slice o0 0 0]/\tj 34 (.sli 9) 1 24 [.slice o0 0 0]/\tj 51 (.struct [(0,26),(2,4),(3,4)]) 4 40 [.int .i64 0,.slice o0 0 0,.bool l0,.bool l0]/\tj 52 (.struct [(0,26),(2,4),(3,4)]) 4 40 [.int .i64 0,.slice o0 0 0,.bool l0,.bool l0]/\tj 63 (.struct [(0,22),(1,3),(2,3)]) 3 40 [.slice o0 0 0,.int .i64 0,.int .i64 0]/\tj 64 (.struct [(0,22),(1,3),(2,3)]) 3 40 [.slice o0 0 0,.int .i64 0,.int .i64 0]/\tj 83 (.int .u64) 1 8 [.int .u64 0]/\tj 87 (.sli 24) 1 24 [.slice o0 0 0]/\tj 101 (.int .u64) 1 8 [.int .u64 0]/\tj 121 (.sli 4) 1 24 [.slice o0 0 0]/\tj 137 (.struct [(0,136),(1,22)]) 2 32 [.pointer o0,.slice o0 0 0]/\tj 138 (.struct [(0,136),(1,22)]) 2 32 [.pointer o0,.slice o0 0 0]/\tj 150 .other 1 8 [.nilFunc]/\tj 151 (.map 101 3) 1 8 [.map o0]/\tj 152 (.struct [(0,151)]) 1 8 [.map o0]/\tj 153 (.struct [(0,151)]) 1 8 [.map o0]/\tj 173 (.arr 256 4) 256 256 (List.replicate 256 (.bool l0))/\tj 174 (.struct [(0,24),(1,150),(2,173),(258,24)]) 259 312 ([.slice o0 0 0,.nilFunc]++(List.replicate 256 (.bool l0))++[.slice o0 0 0])/\tj 175 (.struct [(0,24),(1,150),(2,173),(258,24)]) 259 312 ([.slice o0 0 0,.nilFunc]++(List.replicate 256 (.bool l0))++[.slice o0 0 0])/\tj 182 (.int .u32) 1 4 [.int .u32 0]/\tj 183 (.arr 24 5) 24 24 (List.replicate 24 (.int .u8 0))/\tj 195 (.struct [(0,3),(1,24)]) 2 32 [.int .i64 0,.slice o0 0 0]/\tj 196 (.struct [(0,3),(1,24)]) 2 32 [.int .i64 0,.slice o0 0 0]/\tj 202 (.int .i64) 1 8 [.int .i64 0]/\tj 208 (.arr 20 101) 20 160 (List.replicate 20 (.int .u64 0))/\tj 209 (.arr 65 5) 65 65 (List.replicate 65 (.int .u8 0))/\tj 218 (.int .u64) 1 8 [.int .u64 0]/\tj 228 (.arr 32 5) 32 32 (List.replicate 32 (.int .u8 0))/\tj 229 (.arr 64 5) 64 64 (List.replicate 64 (.int .u8 0)):=by repeat (first|exact zr6 rfl|refine⟨zr6 rfl,?_⟩)
theorem T3k:(T 3).k=.int .i64:=(rfl)
theorem T3s:(T 3).size=1:=(rfl)
theorem T3z:(T 3).zero=[.int .i64 0]:=(rfl)
theorem T5k:(T 5).k=.int .u8:=(rfl)
theorem T5s:(T 5).size=1:=(rfl)
theorem T9k:(T 9).k=.str:=(rfl)
theorem T9s:(T 9).size=1:=(rfl)
theorem zxe:(T 22).k=.sli 5:=(rfl)
theorem zxf:(T 22).size=1:=(rfl)
theorem zwd:(T 101).k=.int .u64:=(rfl)
theorem zwe:(T 101).size=1:=(rfl)
theorem zwf:(T 151).size=1:=(rfl)
theorem zkB:∀x∈tab,x.2.Fits Tryz.prog x.1:=by
 simp only[tab,List.forall_mem_cons]
 exact⟨Vw Tryz.underlying2,Vw Tryz.underlying3,Vw Tryz.underlying4,Vw Tryz.underlying5,Vw Tryz.underlying9,Vw Tryz.underlying12,KO ⟨_,Tryz.underlying13,rfl⟩,Vw Tryz.underlying21,Vw Tryz.underlying22,Vw Tryz.underlying24,KO ⟨_,Tryz.underlying25,rfl⟩,KO ⟨_,Tryz.underlying26,rfl⟩,KO ⟨_,Tryz.underlying27,rfl⟩,KO ⟨_,Tryz.underlying28,rfl⟩,Vw Tryz.underlying34,KO ⟨_,Tryz.underlying51,rfl⟩,KO ⟨_,Tryz.underlying52,rfl⟩,KO ⟨_,Tryz.underlying63,rfl⟩,KO ⟨_,Tryz.underlying64,rfl⟩,Vw Tryz.underlying83,Vw Tryz.underlying87,Vw Tryz.underlying101,Vw Tryz.underlying121,KO ⟨_,Tryz.underlying137,rfl⟩,KO ⟨_,Tryz.underlying138,rfl⟩,Vw ⟨_,Tryz.underlying150,trivial⟩,Vw Tryz.underlying151,KO ⟨_,Tryz.underlying152,rfl⟩,KO ⟨_,Tryz.underlying153,rfl⟩,KO Tryz.underlying173,KO ⟨_,Tryz.underlying174,rfl⟩,KO ⟨_,Tryz.underlying175,rfl⟩,Vw Tryz.underlying182,KO Tryz.underlying183,KO ⟨_,Tryz.underlying195,rfl⟩,KO ⟨_,Tryz.underlying196,rfl⟩,Vw Tryz.underlying202,KO Tryz.underlying208,KO Tryz.underlying209,Vw Tryz.underlying218,KO Tryz.underlying228,KO Tryz.underlying229,λ_ h=>absurd h (by simp)⟩
theorem tk:gg.Ok T Tryz.prog:=by
 intro t a
 unfold T at a ⊢
 cases h:tab.find? _ with
 | none=>grind
 | some x =>
   have c:=zkB x<|jo h
   grind
theorem mixed:Tryz.prog.follows .mixedOrders=true:=dc
theorem zs2:Tryz.prog.globalNamed "internal/strconv.uint64pow10" = n0 0:=dc
instance held:aw:=⟨{ Φ:=wI Tryz.prog,Gl:=λb=>b=0,dr:=False,keep:=λh hb=>zaZ zs2 h hb,low:=λh hb=>zdx zs2 h hb }⟩
theorem aR{p q:Prop}(k:q)(h:q->p:=by intro a;simp -dsimp only[↓gp,gq,simprocAttr,gT];exact a):p:=h k
theorem ef{p:Prop}(h:p:=by simp -dsimp only[↓gp,gq,simprocAttr,gT]):p:=h
theorem nm{p:Prop}(h:p:=by and_intros<;>(first|(simp -dsimp only[gr,simprocAttr];first|done|rfl|(simp;done))|assumption|rfl)):p:=h
theorem gl{p:Prop}(h:p:=by simp -dsimp only[gr,simprocAttr]):p:=h
theorem xs0{p:Prop}(h:p:=by simp -dsimp only[gr,simprocAttr]<;>rfl):p:=h
theorem cZ{a p q:Prop}(b:a)(k:q)(h:a->q->p:=by intro c d;simp -dsimp only[↓gp,gq,simprocAttr,gT,c];exact d):p:=h b k
theorem mg{a p:Prop}(b:a)(h:a->p:=by intro c ;simp -dsimp only[↓gp,gq,simprocAttr,gT,c]):p:=h b
theorem jX{a p:Prop}(b:a)(h:a->p:=by intro c ;and_intros<;>(first|(simp -dsimp only[gr,simprocAttr,c];first|done|rfl|(simp;done))|assumption|rfl)):p:=h b
theorem rp{a p:Prop}(b:a)(h:a->p:=by intro c ;simp -dsimp only[gr,simprocAttr,c]):p:=h b
theorem RB{a p:Prop}(b:a)(h:a->p:=by intro c ;simp -dsimp only[gr,simprocAttr,c]<;>rfl):p:=h b
theorem ff{a b p q:Prop}(c:a)(d:b)(k:q)(h:a->b->q->p:=by intro e f g;simp -dsimp only[↓gp,gq,simprocAttr,gT,e,f];exact g):p:=h c d k
theorem DL{a b p:Prop}(c:a)(d:b)(h:a->b->p:=by intro e f ;simp -dsimp only[↓gp,gq,simprocAttr,gT,e,f]):p:=h c d
theorem gE{a b p:Prop}(c:a)(d:b)(h:a->b->p:=by intro e f ;and_intros<;>(first|(simp -dsimp only[gr,simprocAttr,e,f];first|done|rfl|(simp;done))|assumption|rfl)):p:=h c d
theorem xr2{a b p:Prop}(c:a)(d:b)(h:a->b->p:=by intro e f ;simp -dsimp only[gr,simprocAttr,e,f]):p:=h c d
theorem xs2{a b p:Prop}(c:a)(d:b)(h:a->b->p:=by intro e f ;simp -dsimp only[gr,simprocAttr,e,f]<;>rfl):p:=h c d
theorem iD{a b c p q:Prop}(d:a)(e:b)(f:c)(k:q)(h:a->b->c->q->p:=by intro g i j l;simp -dsimp only[↓gp,gq,simprocAttr,gT,g,i,j];exact l):p:=h d e f k
theorem xd3{a b c p:Prop}(d:a)(e:b)(f:c)(h:a->b->c->p:=by intro g i j ;simp -dsimp only[↓gp,gq,simprocAttr,gT,g,i,j]):p:=h d e f
theorem fB{a b c p:Prop}(d:a)(e:b)(f:c)(h:a->b->c->p:=by intro g i j ;and_intros<;>(first|(simp -dsimp only[gr,simprocAttr,g,i,j];first|done|rfl|(simp;done))|assumption|rfl)):p:=h d e f
theorem xr3{a b c p:Prop}(d:a)(e:b)(f:c)(h:a->b->c->p:=by intro g i j ;simp -dsimp only[gr,simprocAttr,g,i,j]):p:=h d e f
theorem xs3{a b c p:Prop}(d:a)(e:b)(f:c)(h:a->b->c->p:=by intro g i j ;simp -dsimp only[gr,simprocAttr,g,i,j]<;>rfl):p:=h d e f
theorem ox{a b c d p q:Prop}(e:a)(f:b)(g:c)(i:d)(k:q)(h:a->b->c->d->q->p:=by intro j l m n o;simp -dsimp only[↓gp,gq,simprocAttr,gT,j,l,m,n];exact o):p:=h e f g i k
theorem xd4{a b c d p:Prop}(e:a)(f:b)(g:c)(i:d)(h:a->b->c->d->p:=by intro j k l m ;simp -dsimp only[↓gp,gq,simprocAttr,gT,j,k,l,m]):p:=h e f g i
theorem rS{a b c d p:Prop}(e:a)(f:b)(g:c)(i:d)(h:a->b->c->d->p:=by intro j k l m ;and_intros<;>(first|(simp -dsimp only[gr,simprocAttr,j,k,l,m];first|done|rfl|(simp;done))|assumption|rfl)):p:=h e f g i
theorem xr4{a b c d p:Prop}(e:a)(f:b)(g:c)(i:d)(h:a->b->c->d->p:=by intro j k l m ;simp -dsimp only[gr,simprocAttr,j,k,l,m]):p:=h e f g i
theorem nN{a b c d e p q:Prop}(f:a)(g:b)(i:c)(j:d)(l:e)(k:q)(h:a->b->c->d->e->q->p:=by intro m n o r s t;simp -dsimp only[↓gp,gq,simprocAttr,gT,m,n,o,r,s];exact t):p:=h f g i j l k
theorem xd5{a b c d e p:Prop}(f:a)(g:b)(i:c)(j:d)(k:e)(h:a->b->c->d->e->p:=by intro l m n o q ;simp -dsimp only[↓gp,gq,simprocAttr,gT,l,m,n,o,q]):p:=h f g i j k
theorem DM{a b c d e p:Prop}(f:a)(g:b)(i:c)(j:d)(k:e)(h:a->b->c->d->e->p:=by intro l m n o q ;and_intros<;>(first|(simp -dsimp only[gr,simprocAttr,l,m,n,o,q];first|done|rfl|(simp;done))|assumption|rfl)):p:=h f g i j k
theorem Cn{a b c d e f p q:Prop}(g:a)(i:b)(j:c)(l:d)(m:e)(n:f)(k:q)(h:a->b->c->d->e->f->q->p:=by intro o r s t u w x;simp -dsimp only[↓gp,gq,simprocAttr,gT,o,r,s,t,u,w];exact x):p:=h g i j l m n k
theorem xd6{a b c d e f p:Prop}(g:a)(i:b)(j:c)(k:d)(l:e)(m:f)(h:a->b->c->d->e->f->p:=by intro n o q r s t ;simp -dsimp only[↓gp,gq,simprocAttr,gT,n,o,q,r,s,t]):p:=h g i j k l m
theorem xc6{a b c d e f p:Prop}(g:a)(i:b)(j:c)(k:d)(l:e)(m:f)(h:a->b->c->d->e->f->p:=by intro n o q r s t ;and_intros<;>(first|(simp -dsimp only[gr,simprocAttr,n,o,q,r,s,t];first|done|rfl|(simp;done))|assumption|rfl)):p:=h g i j k l m
theorem xA{a b c d e f g p q:Prop}(i:a)(j:b)(l:c)(m:d)(n:e)(o:f)(r:g)(k:q)(h:a->b->c->d->e->f->g->q->p:=by intro s t u w x y z A;simp -dsimp only[↓gp,gq,simprocAttr,gT,s,t,u,w,x,y,z];exact A):p:=h i j l m n o r k
theorem xd7{a b c d e f g p:Prop}(i:a)(j:b)(k:c)(l:d)(m:e)(n:f)(o:g)(h:a->b->c->d->e->f->g->p:=by intro q r s t u w x ;simp -dsimp only[↓gp,gq,simprocAttr,gT,q,r,s,t,u,w,x]):p:=h i j k l m n o
theorem xc7{a b c d e f g p:Prop}(i:a)(j:b)(k:c)(l:d)(m:e)(n:f)(o:g)(h:a->b->c->d->e->f->g->p:=by intro q r s t u w x ;and_intros<;>(first|(simp -dsimp only[gr,simprocAttr,q,r,s,t,u,w,x];first|done|rfl|(simp;done))|assumption|rfl)):p:=h i j k l m n o
theorem xr7{a b c d e f g p:Prop}(i:a)(j:b)(k:c)(l:d)(m:e)(n:f)(o:g)(h:a->b->c->d->e->f->g->p:=by intro q r s t u w x ;simp -dsimp only[gr,simprocAttr,q,r,s,t,u,w,x]):p:=h i j k l m n o
theorem XO{a b c d e f g i p q:Prop}(j:a)(l:b)(m:c)(n:d)(o:e)(r:f)(s:g)(t:i)(k:q)(h:a->b->c->d->e->f->g->i->q->p:=by intro u w x y z A B C D;simp -dsimp only[↓gp,gq,simprocAttr,gT,u,w,x,y,z,A,B,C];exact D):p:=h j l m n o r s t k
theorem xc8{a b c d e f g i p:Prop}(j:a)(k:b)(l:c)(m:d)(n:e)(o:f)(q:g)(r:i)(h:a->b->c->d->e->f->g->i->p:=by intro s t u w x y z A ;and_intros<;>(first|(simp -dsimp only[gr,simprocAttr,s,t,u,w,x,y,z,A];first|done|rfl|(simp;done))|assumption|rfl)):p:=h j k l m n o q r
theorem cA[aw]{f:FuncId}{fn:Func}{c:Code}{args:M0}{rv:RV}(a:List ResultVar)(b:Tryz.prog.funcs[f]?=n0 fn)(h:Kb args->wC Tryz.prog T c (zlN T a rv) (St.init args))(d:(fn.name == "runtime.NumGoroutine")=false:=by rfl)(e:fn.body=n0 c:=by rfl)(g:fn.results.toList=a:=by rfl)(i:(fits fn.ntmps c&&decide (args.length<=fn.ntmps)&&decide (fn.results.toList.length<=4))=true:=by kernel_rfl):AC Tryz.prog f args rv:=AC.go tk mixed b d e g i h
theorem kr{p:Prop}(h:p:=by kernel_rfl):p:=h
theorem Sx[aw]{f:FuncId}{fn:Func}{c:Code}{args:M0}{a:S0}{post:(S0)->PV->Prop}(b:List ResultVar)(d:Tryz.prog.funcs[f]?=n0 fn)(h:Kb args->(∀k,yD (a k).kind)->∀s:St,(∀i,s.sl i=args.getD i .junk)->(∀k,s.rw k=a k)->wC Tryz.prog T c (Qi T b post) s)(e:(fn.name == "runtime.NumGoroutine")=false:=by rfl)(g:fn.body=n0 c:=by rfl)(j:fn.results.toList=b:=by rfl)(l:(fits fn.ntmps c&&decide (args.length<=fn.ntmps)&&decide (fn.results.toList.length<=4))=true:=by kernel_rfl):AG Tryz.prog f args a post:=AG.go tk mixed d e g j l h
end Go.Proofs.YtijabbemjaioeaaGreatDoor
