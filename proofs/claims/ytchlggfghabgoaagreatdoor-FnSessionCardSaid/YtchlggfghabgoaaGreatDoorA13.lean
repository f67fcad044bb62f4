/- DERIVED by an AI agent. -/
import Derived.Shelf.Strings.OnBuilder
import Derived.Test.YtchlggfghabgoaaGreatDoorA12
import Derived.Shelf.Strconv.Itoa3
import Derived.Lib.LaidU8
import Derived.Shelf.SlSortCmp.Whole1
import Derived.Shelf.SlSortCmp.NoneTotal
set_option linter.all false
namespace Go.Abs
open List renaming length→lh
open Go.Proofs Go.Shelf Go.RowKit
variable {P:Program}{w:World}{g:Nat}{a:Ren}
def qJ(l:Q0)(sep:P0):P0:=⟨(Go.Lib.join (l.map (·.data.toList)) sep.data.toList).toArray⟩
theorem zrx[aw](L:Lays.n156 P a)(X:Builder.Extra P a)(D:Enters P (a.f 156))(m:¬aw.dr)(l:Q0)(sep:P0)(E:lh l<=140737488355328)(i:(qJ l sep).size<=140737488355328) :
 AC P (a.f 156) [.sl false 1 (sL l),.v (.string sep)] (.im (.v (.string (qJ l sep)))):=by
 refine⟨D,λw vals _ F=>?_⟩
 obtain⟨G,u⟩:=F
 obtain⟨x,y,rfl⟩:∃x y,vals=[x,y]:=by
  match vals,G with
  | [x,y],_=>exact⟨x,y,rfl⟩
 have z:=u 0 (by simp) (by simp)
 have A:=u 1 (by simp) (by simp)
 simp only[cL,pl]at z A
 obtain rfl:=A.v_eq
 have c:lh (sL l)=lh l:=by simp[sL]
 have n:Calls P (a.f 156) #[x,.string sep] w λe p=>e=.returned (.string (qJ l sep))/\Below w.heap.size w p:=by
  cases z with
  | @sl _ _ _ _ len cap _ g Q B H R I J =>
    rw[dh,c]at B;subst B;have k:∀(j:Nat)t,l[j]?=some t->∃b o,g=some ⟨b,o,none⟩/\b<w.heap.size/\w.cell? ⟨b,o+j,none⟩=some (.string t):=λj t q=>by
     obtain⟨d,rfl⟩:=List.getElem?_eq_some_iff.1 q;obtain⟨b,o,K,_,S,r⟩:=I j (by rw[c];exact d);have C:=J j (by rw[c];exact d);have:(sL l)[j]'(by rw[c];exact d)=.v (.string l[j]):=by simp[sL]
     rw[this]at C;have M:=C.v_eq;refine⟨b,o,K,?_,by rw[r,M]⟩;rcases bf b w.heap.size with h|h;exact h;have:w.cell? ⟨b,o+j,none⟩=none:=by simp[World.cell?,h]
     rw[this]at r;cases r
    rcases l with _|⟨t,l⟩;exact(Any.strings_Join_none L X g cap sep w).mono λe p⟨s,f⟩=>⟨s,f ▸ Below.refl _ _⟩;obtain⟨b,o,rfl,N,_⟩:=k 0 t rfl;have:=Any.strings_Join L X b o cap (t::l) sep w (λj O q=>by
     obtain⟨U,V,e,_,h⟩:=k j O q;cases e;exact h) N E H (by simpa[qJ,ByteArray.size]using i)
    exact this
 exact n.mono λe p⟨s,f⟩=>⟨_,[],s,⟨f.os,f.tape,⟨f.output,λh=>absurd h m⟩,f.size,f.block⟩,.im (.v _),fS⟩
abbrev wI(P:Program)(w:World):Prop:=Go.Lib.TabIs P w "internal/strconv.uint64pow10" .u64 Go.Lib.pow10Tab
theorem zaZ(c:P.globalNamed "internal/strconv.uint64pow10" = some g){a:World}(h:wI P w)(d:∀b,b=g->a.heap[b]?=w.heap[b]?):wI P a:=by simp_all[Go.Lib.TabIs,World.var?]
theorem zdx(c:P.globalNamed "internal/strconv.uint64pow10" = some g){b:Nat}(h:wI P w)(d:b=g):b<w.heap.size:=by
 unfold wI Go.Lib.TabIs World.var? at h;grind
theorem zp1[aw](L:LaysM.n171 P a)(d:Enters P (a.f 171))(f:∀w,aw.Φ w->wI P w){n:Int}(g:-9223372036854775808<=n)(i:n<=9223372036854775807) :
 AC P (a.f 171) [.v (.int .i64 n)] (.im (.v (.string ⟨(Go.Lib.itoa n).toArray⟩))):=by
 refine⟨d,λw vals j l=>?_⟩
 obtain⟨m,o⟩:=l
 obtain⟨x,rfl⟩:∃x,vals=[x]:=by
  match vals,m with
  | [x],_=>simp
 obtain rfl:=(o 0 (sp)<|sp).v_eq
 refine(Any.strconv_Itoa L n g i w<|f w j).mono λe s⟨p,k,c,q⟩=>?_
 subst q
 refine⟨_,[],p,⟨rfl,rfl,⟨rfl,λ_=>kF _ _⟩,?_,λb r=>?_⟩,.im<|.v _,fS⟩
 simp
 show(w.heap++c)[b]?=w.heap[b]?
 grind
theorem ziZ{l:List (String×DataW Unit)}{t e:TypeId}{n:Nat}(k:P.globalNamed "internal/strconv.uint64pow10" = some g)(b:(P.globals[g]?).map (·.type)=some t)(m:P.underlying t=some (.array n e))(o:P.underlying e=some (.int .u64))(c:P.cellsOf e=1)(d:P.cellsOf t=n)(h:laidMet P l w)(q:("internal/strconv.uint64pow10",Go.Lib.tabData .u64 Go.Lib.pow10Tab)∈l):wI P w:=by
 have⟨s,u,W,j,p,f,i,a,r⟩:=Go.Lib.laidMet.reads h q
 obtain rfl:=Option.some.inj (k.symm.trans f)
 obtain rfl:=Option.some.inj (b.symm.trans i)
 rw[wI,Go.Lib.TabIs,a,<- Go.Lib.cells_of_tab m o c d r]
end Go.Abs
namespace Go.Abs
open List renaming length→lh
open Go.Proofs Go.Shelf Go.RowKit Go.Sort
variable {W:World}{e:List Value}{b:Nat}
theorem zo0[aw]{a:World}(h:Ext W a)(d:aw.dr):∃q b,a=grow (W.drewN q) b:=by
 refine⟨a.drawn-W.drawn,a.heap.extract W.heap.size a.heap.size,?_⟩;have j:=h.output.more d;have k:a.heap=W.heap++a.heap.extract W.heap.size a.heap.size:=by refine Array.ext_getElem? λi=>?_;by_cases c:i<W.heap.size;rw[h.block i c,dN c];grind
 have e:=h.os;have f:=h.tape;have g:=h.output.same;cases a;cases W;simp only[grow,World.drewN]at *;subst e f g;congr 1;omega
section
variable {α:Type}[Inhabited α](enc:α->Value)
theorem zcj{cells:Array Value}{e:TypeId}{fr:Nat×Nat}(h:W.heap[b]?=some (.cells cells e fr))(a:Array α):(putRow enc W b 0 a).heap[b]?=some (.cells (putCells enc 0 a cells) e fr):=by simp[putRow,mapBlock,yl,h,onCells]
theorem Pz{i:Nat}(h:i≠b)(a:Array α):(putRow enc W b 0 a).heap[i]?=W.heap[i]?:=by simp[putRow,mapBlock,yl];omega
theorem QV{c:List Value}{d:Array α}(h:d.size=lh e):putCells enc 0 d (e++c).toArray=(d.toList.map enc++c).toArray:=by
 simp only[putCells];grind
end
theorem zj7{α:Type}{c:α->Int}{E:Env}{d:List α}(h:ex W E b (iL (d.map c)) e):e=d.map λx=>Value.int .i64 (c x):=by
 have⟨g,j⟩:=h;have f:=by simpa[iL]using g
 refine bE (ss f.symm) λi k l=>?_;have a:=j i om k;simp[iL]at a;rw[aM];exact a.v_eq
theorem zrN[aw]{P:Program}{ρ:Ren}(L:SlLaysF.n6 P ρ)(L0:SlLaysF0.n6 P ρ)(hE:Enters P (ρ.f 6))(hdr:aw.dr){α:Type}[Inhabited α](en:α->Int)(cf:α->α->Int)(hS:SWO (ltOf cf))(g:FuncId)(hg:∀args w,(callFunc g args).run P w=.ok (.enter g args) w)(hcmp:∀x y:α,AC P g [.v (.int .i64 (en x)),.v (.int .i64 (en y))] (.im (.v (.int .i64 (cf x y)))))(e:TypeId)(d:List α)(hd:lh d<4611686018427387904)(out:N0)(huniq:∀d':List α,d'.Perm d->d'.Pairwise (λx y=>ltOf cf y x=false)->d'.map en=out):AM P (ρ.f 6) [.own 1000000 1,.clo g []] [⟨e,1,iL (d.map en)⟩] [iL out] (.tuple #[]):=by
 refine⟨hE,λr hr=>?_,rfl,λc hc=>?_,λw M E vals hw hR hv=>?_⟩
 rw[List.mem_singleton.1 hr];exact dJ _
 rw[List.mem_singleton.1 hc];exact dJ _
 obtain⟨hl,hr⟩:=hv
 obtain⟨x,y,rfl⟩:∃x y,vals=[x,y]:=by
  match vals,hl with
  | [x,y],_=>exact⟨x,y,rfl⟩
 have h0:=hr 0 (by simp) (by simp)
 have h1:=hr 1 (by simp) (by simp)
 simp only[cL,pl]at h0 h1
 have hRl:E.R 1000000=⟨1,.sli e 1 false (iL (d.map en))⟩:=by rw[hR];exact Hh (i:=0) (r:=⟨e,1,iL (d.map en)⟩) rfl
 have hx:x=E.rv 1000000:=by cases h0 with|own hv hx=>exact hx (by rw[hRl]) (by rw[hRl];rfl)
 have hy:y=.func (.func g) #[] #[]:=by
  cases h1 with
  | @clo _ _ _ _ vs hl2 hh=>have:vs=[]:=aL hl2.symm;subst this;rfl
 subst hx hy
 have hrow:=hw.rows 1000000
 unfold cn at hrow
 rw[hRl]at hrow
 rcases hrow with⟨g1,g2,g3⟩|⟨b,n,cap,vs,rest,g1,g2,g3,g4,g5,g6,g7,g8,g9⟩
 have hdn:d=[]:=by have:=cV lh g3;exact aL (by simpa[iL]using this)
 subst hdn
 have ho:out=[]:=(huniq [] (List.Perm.refl _) List.Pairwise.nil).symm
 subst ho
 rw[g2]
 refine(AnyF.slices_SortFunc_none L0 none 0 (.func (.func g) #[] #[]) w).mono λen' w'⟨he,hw'⟩=>?_
 subst hw'
 refine⟨he,E,hw,λi r c hi hc=>?_⟩
 match i,hi,hc with
 | 0,hi,hc=>cases hi;cases hc;exact hRl
 have hvs:=zj7 g9
 have hn:n=lh d:=by have:=cV lh hvs;rw[g5]at this;simpa using this
 subst hn
 let enc:α->Value:=λx=>.int .i64 (en x)
 have hvl:lh vs=d.toArray.size:=by rw[g5];simp
 have hcell:∀j(hj:j<lh vs),w.cell? ⟨b,0+j,none⟩=some vs[j]:=λj hj=>by rw[cm,eF g4 (by simp;omega)];simp[bM hj]
 have hH:Holds enc w b 0 d.toArray:=λj hj=>by
  have hj':j<lh vs:=by omega
  refine⟨?_,?_⟩;rw[hcell j hj'];have hj2:j<lh d:=ss hj;have:vs[j]=enc d[j]:=by
   have:vs[j]=(d.map λx=>Value.int .i64 (en x))[j]'(ss hj2):=by congr 1
   rw[this,aM]
  rw[this];simp[hj2];simp[World.frozen?,g4]
 have hbs:=pQ g4
 have hng:=hw.ngl g1 (by rw[hRl];rfl)
 have hphi:∀m os(dk:Array α),aw.Φ (sortWorld enc w b 0 m dk os):=λm os dk=>by refine aw.keep hw.held λi hi=>?_;have hne:i≠b:=λe=>hng (e ▸ hi);have hlt:=aw.low hw.held hi;show((putRow enc (Sort.ahead w m) b 0 dk).heap++os)[i]?=w.heap[i]?;rw[dN (by rw[Sort.size_putRow];exact hlt),Pz enc hne];rfl
 have hlays:CmpLays1 P g #[] enc cf b 0 d.toArray.size w:=λm os dk hs x y=>by
  have hc:=(hcmp x y).2 (sortWorld enc w b 0 m dk os) [.int .i64 (en x),.int .i64 (en y)] (hphi m os dk) ⟨rfl,λi a b=>by
   match i,a,b with
   | 0,_,_=>exact .v _
   | 1,_,_=>exact .v _⟩
  refine hc.mono λe' w1⟨v,lv,he,hx,ho,_⟩=>⟨?_,zo0 hx hdr⟩;cases ho with
  | im h=>cases h;exact he
 rw[g3]
 have hcon:=Any.slices_SortFunc L enc (λ_=>rfl) cf hS g #[] b 0 cap d.toArray w hg hlays hH hbs (ss hd)
 have hsz:d.toArray.size=lh d:=by simp
 rw[hsz]at hcon
 refine hcon.mono λen' w'⟨he,d',m,os,hp,hs,hw'⟩=>?_
 obtain⟨p1,p2,p3⟩:=hp
 have hds:d'.size=lh d:=by rw[p1];simp
 have hperm:d'.toList.Perm d:=by
  have a:(d'.extract 0 (lh d)).toList=d'.toList:=by rw[<- hds,Array.extract_size]
  have b:(d.toArray.extract 0 (lh d)).toList=d:=by simp
  rw[a,b]at p3;exact p3
 have hpw:d'.toList.Pairwise (λx y=>ltOf cf y x=false):=by refine List.pairwise_iff_getElem.2 λi j hi hj hij=>?_;have hi':i<d'.size:=ss hi;have hj':j<d'.size:=ss hj;have:=hs i j (aB _) hij (by omega);rw[getElem!_pos d' i hi',getElem!_pos d' j hj']at this;simpa using this
 have hout:=huniq d'.toList hperm hpw
 have hheap:w'.heap[b]?=some (.cells (d'.toList.map enc++rest).toArray e (0,0)):=by rw[hw'];show((putRow enc (Sort.ahead w m) b 0 d').heap++os)[b]?=_;rw[dN (by rw[Sort.size_putRow];exact hbs),zcj enc (show(Sort.ahead w m).heap[b]?=_ from g4),QV enc (by rw[hds,g5,dh])]
 have hoff:∀i,i<w.heap.size->i≠b->w'.heap[i]?=w.heap[i]?:=λi hi hne=>by rw[hw'];show((putRow enc (Sort.ahead w m) b 0 d').heap++os)[i]?=_;rw[dN (by rw[Sort.size_putRow];exact hi),Pz enc hne];rfl
 have hsize:w.heap.size<=w'.heap.size:=by rw[hw'];show w.heap.size<=((putRow enc (Sort.ahead w m) b 0 d').heap++os).size;rw[Array.size_append,Sort.size_putRow];exact kF _ _
 let R':S0:=fM E.R 1000000 ⟨1,.sli e 1 false (iL out)⟩
 have Rk:R' 1000000=⟨1,.sli e 1 false (iL out)⟩:=aT _ _ _
 have Ro:∀k,k≠1000000->R' k=E.R k:=λk hk=>bu _ _ hk
 let E':Env:={ R:=R',rm:=E.rm,rv:=E.rv,L:=Lf E.X R' E.rm,B:=E.B,X:=E.X }
 have hturn:Turn ⟨w,M,0,E.R,E.rm,E.rv,E.X⟩ E E' w w' (λk=>k=1000000):=by refine⟨rfl,rfl,rfl,λk hk=>⟨Ro k hk,rfl,rfl⟩,λi hi hD=>?_,λk i hk hb hn=>?_,λk hk=>?_,λk hk _ _=>?_,λk hk _ _=>?_,λk hk _=>?_,λk k' i hk hk' _ _ _ _=>hk.trans hk'.symm,hsize,?_,?_,⟨?_,λ_=>?_⟩⟩;refine hoff i hi λe=>?_;have:=hD 1000000 rfl (by rw[e];exact g1);rw[hRl]at this;cases this;subst hk;exact .inr ⟨hb,by rw[hRl];rfl,λ_=>by rw[hRl];rfl⟩;subst hk;show _<=(R' 1000000).ver;rw[Rk,hRl];exact ab _;subst hk;exact⟨by rw[hRl];rfl,rfl⟩;subst hk;exact⟨by rw[hRl];rfl,rfl⟩;subst hk;show 0<(R' 1000000).ver;rw[Rk];exact Nat.one_pos;rw[hw'];rfl;rw[hw'];rfl;rw[hw'];rfl;rw[hw'];exact kF _ _
 have hwok:=hturn.wok hw λk hk=>by
  subst hk;unfold cn;have hk2:E'.R 1000000=⟨1,.sli e 1 false (iL out)⟩:=Rk;rw[hk2];refine .inr ⟨b,lh d,cap,d'.toList.map enc,rest,g1,g2,g3,hheap,by simp[hds],g6,g7,?_,?_⟩;rw[aA]at g8 ⊢;rw[<- g8,g5];simp[hds];refine⟨?_,λi a b'=>?_⟩;rw[<- hout];simp[iL];have hi:i<lh d'.toList:=ss b';have e1:(iL out)[i]=.v (.int .i64 (en d'.toList[i])):=by simp only[<- hout,iL,aM]
  rw[e1,aM];exact .v _
 refine⟨he,E',hwok,λi r c hi hc=>?_⟩
 match i,hi,hc with
 | 0,hi,hc=>cases hi;cases hc;exact Rk
end Go.Abs
namespace Go.Abs
open List renaming length→lh
variable {w:World}{d:Prop}{E:Env}
def HeldS.tell(h:HeldS)(d:Prop):HeldS:={ h with dr:=d }
theorem zuu{h:HeldS}{M:Nat->Nat->Prop}{p:S0}{pm:Nat->Option Nat}{t:Nat->Value}{X:l1}(k:@WOk ⟨h⟩ ⟨w,M,0,p,pm,t,X⟩ E w):@WOk ⟨h.tell d⟩ ⟨w,M,0,p,pm,t,X⟩ E w:=by obtain⟨a,b,c,e,f,g,⟨i,j,l⟩,m,⟨n,o,_,q,r⟩,s⟩:=k;letI:aw:=⟨h.tell d⟩;exact⟨a,b,c,e,f,g,⟨i,j,l⟩,m,⟨n,o,OutLe.refl w,q,r⟩,s⟩
theorem zrP{h:HeldS}(t:¬h.dr){G:Ghost}(k:@WOk ⟨h.tell d⟩ G E w):@WOk ⟨h⟩ G E w:=by obtain⟨a,b,c,e,f,g,⟨i,j,l⟩,m,⟨n,o,p,q,r⟩,s⟩:=k;letI:aw:=⟨h⟩;exact⟨a,b,c,e,f,g,⟨i,j,l⟩,m,⟨n,o,⟨@OutLe.same ⟨h.tell d⟩ _ _ p,λe=>absurd e t⟩,q,r⟩,s⟩
theorem AM.off{h:HeldS}{d:Prop}(e:¬h.dr){P:Program}{f:FuncId}{args:M0}{b:List LR}{a:List M0}{x:Value}(k:@AM ⟨h.tell d⟩ P f args b a x):@AM ⟨h⟩ P f args b a x :=
 ⟨k.1,k.2.1,k.2.2.1,k.2.2.2.1,λw M E vals g i j=>(k.2.2.2.2 w M E _ (zuu g) i j).mono λ_ _⟨l,m,c,n⟩=>⟨l,m,zrP e c,n⟩⟩
end Go.Abs
