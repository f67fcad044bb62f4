/- DERIVED by an AI agent. -/
import Derived.Test.YtkledeboboplmaaGreatDoorQ1
import Derived.Test.YtkledeboboplmaaGreatDoorA12
import Derived.Test.YtkledeboboplmaaGreatDoorP1
namespace Go.Proofs.YtkledeboboplmaaGreatDoor
open Go.Abs
set_option linter.unusedSimpArgs false
set_option linter.unusedVariables false
theorem zqI (M:Mat) (p:Int) (hp:isP p = true) (hM:M.length <= 900) (hr:∀ i,i < M.length->(M.getD i []).length = (M.getD 0 []).length) (hn:(M.getD 0 []).length <= 1000):AC Tryz.prog 152 [zEB M,int p] (.im (int (zqz p M))):=by
 refine xac [.tmp 4] Tryz.func152 fun hl=>?_
 have hp2:=zcJ hp
 refine xg0 ?_
 refine ⟨fun h0=>?_,fun h0=>?_⟩
 ·have hM0:M = []:=List.eq_nil_of_length_eq_zero (by simpa using h0)
  subst hM0
  rfl
 ·have hM0:¬ M.length = 0:=by simpa using h0
  refine ⟨kr,zaa (zks M p hp hM (fun i hi=>by rw [hr i hi];exact hn)) ?_⟩
  refine xg0 ?_
  refine ⟨om,om,?_⟩
  have hok:=zu3 (p:=p) om hr
  have hred:=zkr (zhL p M) (M.getD 0 []).length p hp hok (by rw [zd0];exact hM) hn
  refine zIw (v:=1) hred (by repeat (first | exact GiveL.nil | refine GiveL.v ?_ | refine GiveL.clo ?_ | refine GiveL.own 0 rfl ?_ | refine GiveL.own 1 rfl ?_ | refine GiveL.ag ?_ ?_)) (zs3 10 22 3 ((zhL p M).map iL) (fun i hi=>by simp -dsimp only [gr,simprocAttr])) List.nodup_range (by decide) ?_
  refine xg0 ?_
  exact ⟨kr,by rw [zad];rfl⟩
theorem zkq (M:Mat) (p:Int) (hp:isP p = true) (hM:M.length <= 900) (hr:∀ i,i < M.length->(M.getD i []).length = (M.getD 0 []).length) (hn:(M.getD 0 []).length <= 1000) :
 AC Tryz.prog 140 [zEB M,int p] (.tup [.tb 22 3 ((zhz p (zhL p M) [] 0 (M.getD 0 []).length).1.map iL),.fr 3 1 (iL (ofN (zhz p (zhL p M) [] 0 (M.getD 0 []).length).2))]):=by
 refine xac [.tmp 4,.tmp 5] Tryz.func140 fun hl=>?_
 have hp2:=zcJ hp
 generalize hne:(M.getD 0 []).length = n at *
 refine xg0 ?_
 refine zFu (k:=15) (v:=1) (e:=22) (e2:=3) xr0 (fun j=>by simp -dsimp only [gr,simprocAttr]) (fun (i:Nat) s=>(s.sl 0 = zEB M/\s.sl 1 = int p/\s.sl 6 = .own 15 (i + 1)/\s.sl 7 = int i)/\(i <= M.length/\TabG s.rw 15 (i + 1) 22 3 i (zhL p (M.take i)))) (fun i=>M.length - i) (0) (fun sX htX hslX hoX=>⟨(xc2 hslX hoX),⟨om,htX⟩⟩) ?_
 intro i sa ⟨Ha,hIa⟩
 obtain ⟨hi,ht⟩:=hIa
 refine xg1 Ha ?_
 refine ⟨fun h=>?_,fun h=>?_⟩
 ·have hri:=hr i h
  have hlen:=ziG p hi
  refine zIW (fun (zb:Nat × Nat) s=>match zb with | (j,u)=>(s.sl 0 = zEB M/\s.sl 1 = int p/\s.sl 6 = .own 15 (i + 1)/\s.sl 7 = int i/\s.sl 8 = .own 22 u/\s.rw 22 = ⟨u,.tab 3 (iL (((M.getD i []).map fun x=>x % p).take j))⟩/\s.sl 9 = int j)/\(j <= n/\TabG s.rw 15 (i + 1) 22 3 i (zhL p (M.take i)))) (fun (j,u)=>n - j) ((0,(sa.rw 22).ver + 1)) (Wk.tab (k:=22) (v:=(sa.rw 22).ver + 1) (e:=3) (c:=[]) xr0 (fun p hp=>by cases hp)) ⟨(xc1 Ha),⟨om,ht.same xr0 (fun x=>by simp -dsimp only [gr,simprocAttr])⟩⟩ ?_
  intro (j,u) sb ⟨⟨h0b,h1b,h6b,h7b,h8b,r22b,h9b⟩,hIb⟩
  obtain ⟨hj,ht2⟩:=hIb
  refine xg7 h0b h1b h6b h7b h8b r22b h9b ?_
  refine ⟨h,h,fun h2=>⟨h,h,om,om,zaa (zfk _ p hp) ?_⟩,fun h2=>?_⟩
  ·refine xg7 h0b h1b h6b h7b h8b r22b h9b ?_
   have h2':j < n:=om
   have hts:((M.getD i []).map fun x=>x % p).take (j + 1) = ((M.getD i []).map fun x=>x % p).take j ++ [(M.getD i []).getD j 0 % p]:=by
    rw [zas 0 (by simpa using h2),zyd p h2]
   have htl:(((M.getD i []).map fun x=>x % p).take j).length <= 1000:=by simp;omega
   refine ⟨om,zab ((j + 1,u + 1)) ⟨(by and_intros <;> (first | (simp -dsimp only [gr,simprocAttr,h0b,h1b,h6b,h7b,h8b,r22b,h9b,zac h2' om,hts];first | done | rfl | (simp;done)) | assumption | rfl)),⟨by dsimp only;omega,ht2.same xr0 (fun x=>by simp -dsimp only [gr,simprocAttr])⟩⟩⟩
  ·have hjn:((M.getD i []).map fun x=>x % p).take j = (M.getD i []).map fun x=>x % p:=List.take_of_length_le (by rw [List.length_map,hri];omega)
   rw [hjn] at r22b
   refine xg8 h0b h1b h6b h7b h8b r22b h9b @ht2.top ?_
   refine ⟨om,zzh (k:=15) (v:=i + 1 + 1) (e:=22) (e2:=3) (n:=i) (d:=22) (vd:=u) (M:=zhL p (M.take i)) (r:=(M.getD i []).map fun x=>x % p) (xr1 @ht2.top) hlen (fun j hj=>by simp -dsimp only [gr,simprocAttr,ht2.row j hj]) (fun j hj=>by simp -dsimp only [gr,simprocAttr,ht2.rest j hj]) (xr7 h0b h1b h6b h7b h8b r22b h9b) (by decide) (by decide) (i + 1) (fun sX htX hslX hoX=>⟨(by and_intros <;> (first | (simp -dsimp only [gr,simprocAttr,hslX,hoX,Ha,h0b,h1b,h6b,h7b,h8b,r22b,h9b,zac h om];first | done | rfl | (simp;done)) | assumption | rfl)),⟨om,(ztP p h ▸ htX:TabG _ _ _ _ _ _ _)⟩⟩) (by first | omega | (simp only;omega) | (dsimp only;omega) | (show _ < _;simp;omega))⟩
 ·have:i = M.length:=om
  subst this
  rw [List.take_length] at ht
  have htI:=ht.done
  have hmok:=zu3 (p:=p) om hr
  have hml:=zd0 p M
  generalize zhL p M = R at *
  refine zag (fun (zc:Mat × List Nat × Nat × List Nat × Nat) s=>match zc with | (cur,piv,col,q,v)=>(s.sl 1 = int p/\s.sl 6 = .own 15 (M.length + 1)/\s.sl 10 = .own 48 v/\s.rw 48 = ⟨v,.sli 3 1 false (iL (ofN piv))⟩/\s.sl 11 = int col)/\(col <= n/\MatOk p n cur/\cur.length = M.length/\piv.length <= M.length/\TabI s.rw 15 (M.length + 1) 22 3 q cur/\q.Perm (List.range M.length)/\zhz p R [] 0 n = zhz p cur piv col (n - col))) (fun (cur,piv,col,q,v)=>n - col) ((R,[],0,List.range M.length,(sa.rw 48).ver + 1)) ⟨(xc1 Ha),⟨om,hmok,hml,sp,htI.same xr0 (fun x=>by simp -dsimp only [gr,simprocAttr]),List.Perm.refl _,rfl⟩⟩ ?_
  intro (cur,piv,col,q,v) sc ⟨Hc,hIc⟩
  obtain ⟨hcol,hcur,hlc,hpl,htc,hperm,hred⟩:=hIc
  have hlq:q.length = cur.length:=htc.len
  refine xg4 Hc @htc.top hlq @zad ?_
  refine ⟨fun h0=>?_,fun h0=>?_⟩
  ·have h0:0 < cur.length:=om
   have hr0:=htc.row h0
   have hl0:=hcur.len 0 h0
   refine xg6 Hc @htc.top hlq @zad hr0 hl0 ?_
   refine ⟨om,h0,fun h1=>⟨fun h2=>?_,fun h2=>?_⟩,fun h1=>?_⟩
   ·rw [zyc h1 h2] at hred
    refine zag (fun (a:Nat) s=>(s.sl 1 = int p/\s.sl 6 = .own 15 (M.length + 1)/\s.sl 10 = .own 48 v/\s.rw 48 = ⟨v,.sli 3 1 false (iL (ofN piv))⟩/\s.sl 11 = int col/\s.sl 12 = int piv.length/\s.sl 13 = int a)/\(piv.length <= a/\a <= cur.length/\zbi cur col piv.length (cur.length - piv.length) = zbi cur col a (cur.length - a)/\TabI s.rw 15 (M.length + 1) 22 3 q cur)) (fun a=>cur.length - a) (piv.length) ⟨(xc1 Hc),⟨om,om,rfl,htc.same xr0 (fun x=>by simp -dsimp only [gr,simprocAttr])⟩⟩ ?_
    intro a sd ⟨Hd,hId⟩
    obtain ⟨ha1,ha2,hfind,htb⟩:=hId
    have stop:(¬ a < cur.length \/ ¬ (cur.getD a []).getD col 0 = 0)->zbi cur col piv.length (cur.length - piv.length) = a:=fun h=>by
     rw [hfind]
     by_cases hlt:a < cur.length
     ·rw [ziE hlt,if_neg (h.resolve_left om)]
     ·rw [show cur.length - a = 0 by omega];rfl
    refine xg3 Hd @htb.top hlq ?_
    refine ⟨fun h3=>?_,fun h3=>?_⟩
    ·have hra:=htb.row h3
     have hlen:=hcur.len a h3
     refine xg4 Hd @htb.top hlq hra ?_
     refine ⟨h3,h3,om,om,fun hz=>?_,fun hz=>?_⟩
     ·have hz:=beq_iff_eq.1 hz
      rw [ziE h3,if_pos hz] at hfind
      exact zab (a + 1) ⟨(xc2 Hd (zac h3 om)),⟨om,om,hfind,htb.same xr0 (fun x=>by simp -dsimp only [gr,simprocAttr])⟩⟩
     ·have hz:¬ (cur.getD a []).getD col 0 = 0:=by simpa using hz
      have hfa:=stop (.inr hz)
      have hne':((a:Int) == (cur.length:Int)) = false:=by simp;omega
      have hst:zbw p cur col piv = (zdZ p piv.length col (swp cur piv.length a),piv ++ [col]):=by unfold zbw;rw [hfa,if_neg om]
      rw [hst] at hred
      have hrd:=htb.row h2
      refine xg6 Hd @htb.top hlq hra hne' hrd ?_
      have hsw:=zx7 hcur h2 h3
      have hswl:(swp cur piv.length a).length = cur.length:=zcn _ _ _
      have hqp:((q.set a (q.getD piv.length 0)).set piv.length (q.getD a 0)).Perm q:=by
       have e1:q.getD piv.length 0 = q[piv.length]'om:=by simp [List.getD,(by omega:piv.length < q.length)]
       have e2:q.getD a 0 = q[a]'om:=by simp [List.getD,(by omega:a < q.length)]
       rw [e1,e2];exact List.set_set_perm om om
      have hclr:=zm1 (swp cur piv.length a) n piv.length col p hp hsw om h1 hn
      refine ⟨h3,h3,h2,h2,h3,om,h2,om,zIr hclr (by repeat (first | exact GiveL.nil | refine GiveL.v ?_ | refine GiveL.clo ?_ | refine GiveL.own 0 rfl ?_ | refine GiveL.own 1 rfl ?_ | refine GiveL.ag ?_ ?_)) ((htb.swap h3 h2 (xr1 Hd) (fun x=>by simp -dsimp only [gr,simprocAttr,Hd])).1.to (zFz cur a piv.length)).is (hqp.nodup_iff.2 htb.nd) (fun p' hp'=>?_)⟩
      refine xg2 Hd @zad ?_
      refine ⟨om,?_⟩
      have hnd':p'.Nodup:=hp'.nodup_iff.2 (hqp.nodup_iff.2 htb.nd)
      have hcl:=ztG (p:=p) (at':=piv.length) (col:=col) om hsw om
      have hcll:=zbm p piv.length col (swp cur piv.length a)
      have hp'l:p'.length = cur.length:=by rw [hp'.length_eq,hqp.length_eq,hlq]
      exact zab ((zdZ p piv.length col (swp cur piv.length a),piv ++ [col],col + 1,p',v + 1)) ⟨(xc5 Hc Hd (zac h1 om) @zaD @zdd),⟨by dsimp only;omega,hcl,by dsimp only;rw [hcll,hswl,hlc],by simp;omega,⟨⟨by simp -dsimp only [gr,simprocAttr],by simp [hp'l,hcll,hswl],fun i hi=>by simp -dsimp only [gr,simprocAttr,zzi hnd' hi,zdt]⟩,hnd'⟩,hp'.trans (hqp.trans hperm),hred⟩⟩
    ·have hfa:=stop (.inl om)
     have:a = cur.length:=om
     subst this
     have hst:zbw p cur col piv = (cur,piv):=by unfold zbw;rw [if_pos hfa]
     rw [hst] at hred
     refine xg3 Hd @htb.top hlq ?_
     exact zab ((cur,piv,col + 1,q,v)) ⟨(xc3 Hc Hd (zac h1 om)),⟨by dsimp only;omega,hcur,hlc,by dsimp only;omega,htb.same xr0 (fun x=>by simp -dsimp only [gr,simprocAttr]),hperm,hred⟩⟩
   ·have hf:zhz p cur piv col (n - col) = (cur,piv):=zmH p cur piv col (n - col) h2
    rw [hf] at hred
    rw [hred]
    refine xg1 Hc ?_
    have hq9:∀ j ∈ q,j < 998:=fun j hj=>by have:=List.mem_range.1 (hperm.mem_iff.1 hj);omega
    refine zmD htc (by decide) hq9 ?_
    refine xg1 Hc ?_
    exact zmE htc.nd (fun j hj=>by rw [zbN];omega) (by decide)
   ·have hf:zhz p cur piv col (n - col) = (cur,piv):=by rw [show n - col = 0 by omega];rfl
    rw [hf] at hred
    rw [hred]
    refine xg1 Hc ?_
    have hq9:∀ j ∈ q,j < 998:=fun j hj=>by have:=List.mem_range.1 (hperm.mem_iff.1 hj);omega
    refine zmD htc (by decide) hq9 ?_
    refine xg1 Hc ?_
    exact zmE htc.nd (fun j hj=>by rw [zbN];omega) (by decide)
  ·have hf:zhz p cur piv col (n - col) = (cur,piv):=zmH p cur piv col (n - col) om
   rw [hf] at hred
   rw [hred]
   refine xg1 Hc ?_
   have hq9:∀ j ∈ q,j < 998:=fun j hj=>by have:=List.mem_range.1 (hperm.mem_iff.1 hj);omega
   refine zmD htc (by decide) hq9 ?_
   refine xg1 Hc ?_
   exact zmE htc.nd (fun j hj=>by rw [zbN];omega) (by decide)
theorem zDv (s:St) (d e e2 e' sz:Nat) (rows:List (List PV)) (c:List PV):(zal s d (.tup [.tb e e2 rows,.fr e' sz c])).sl d = .tup [.own d ((s.rw d).ver + 1),.own (sid d rows.length) ((s.rw (sid d rows.length)).ver + 1)] /\
 (zal s d (.tup [.tb e e2 rows,.fr e' sz c])).rw (sid d rows.length) = ⟨(s.rw (sid d rows.length)).ver + 1,.sli e' sz false c⟩:=by
 have hl:(leaves (.tb e e2 rows)).length = rows.length + 1:=by rw [leaves];simp
 have hd:zak d 0 = d:=by unfold zak;omega
 have hs:zak d (0 + (rows.length + 1)) = sid d rows.length:=by rw [Nat.zero_add];rfl
 constructor
 ·unfold zal
  rw [zau]
  simp only [zaY,zbO,zbl,zbI,hl,hd,hs]
 ·have hrw:(zal s d (.tup [.tb e e2 rows,.fr e' sz c])).rw = zjf s.rw d (zbt s.rw d (leaves (.tup [.tb e e2 rows,.fr e' sz c])) 0) 0:=by
   unfold zal;rw [zec];exact zc7 _ _ _ _
  have hlv:leaves (.tup [.tb e e2 rows,.fr e' sz c]) = leaves (.tb e e2 rows) ++ [(e',some sz,c)]:=by rw [zby];simp [leaves]
  have h2:rows.length + 1 < (leaves (.tup [.tb e e2 rows,.fr e' sz c])).length:=by rw [hlv];simp [hl]
  have h1:rows.length + 1 < (zbt s.rw d (leaves (.tup [.tb e e2 rows,.fr e' sz c])) 0).length:=by rw [zbg];exact h2
  have:=zdV s.rw d (zbt s.rw d (leaves (.tup [.tb e e2 rows,.fr e' sz c])) 0) 0 (rows.length + 1) h1
  rw [hs] at this
  rw [hrw,this,zdP _ _ _ _ _ h2,hs]
  have h3:(leaves (.tup [.tb e e2 rows,.fr e' sz c]))[rows.length + 1] = (e',some sz,c):=by
   simp only [hlv]
   rw [List.getElem_append_right om]
   simp [hl]
  rw [h3]
  rfl
theorem znQ (M:Mat) (p:Int) (hp:isP p = true) (hM:M.length <= 900) (hr:∀ i,i < M.length->(M.getD i []).length = (M.getD 0 []).length) (hn:(M.getD 0 []).length <= 1000):AC Tryz.prog 86 [zEB M,int p] (.im (int (zqz p M))):=by
 refine xac [.tmp 4] Tryz.func86 fun hl=>?_
 refine xg0 ?_
 refine zaa (zkq M p hp hM hr hn) ?_
 refine xg2 @zDv @zad ?_
 rfl
theorem zco (n:Int) (xs:List Int):AC Tryz.prog 28 [.ag [int n,zaz xs]] (.fr 3 1 (iL (zfD (za8 n xs)))):=by
 refine xac [.tmp 2] Tryz.func28 fun hl=>?_
 refine xg0 ?_
 refine zaa (zb6 n xs) ?_
 refine xg0 ?_
 have hfull:=zca (za8 n xs)
 have hmem:∀ i,i < (za4 (za8 n xs)).length->(za4 (za8 n xs)).getD i 0 < 64:=fun i h=>zps h
 have hmx:=zFQ (za8 n xs)
 have hd7:=zbp (za8 n xs)
 unfold zfD
 generalize za4 (za8 n xs) = all at *
 refine zag (fun (za:Nat × Nat × Nat) s=>match za with | (i,v,u)=>(s.sl 3 = .own 6 v/\s.rw 6 = ⟨v,.sli 3 1 false (iL (zk1 (all.take i) (mxL (all.take i))))⟩/\s.sl 4 = .own 8 u/\s.rw 8 = ⟨u,.sli 3 1 false (iL (ofN all))⟩/\s.sl 5 = int i)/\(i <= all.length)) (fun (i,v,u)=>all.length - i) ((0,1,1)) ⟨(by and_intros <;> (first | (simp -dsimp only [gr,simprocAttr,mxL,zk1];first | done | rfl | (simp;done)) | assumption | rfl)),sp⟩ ?_
 intro (i,v,u) sa ⟨Ha,hIa⟩
 refine xg2 Ha @zad ?_
 refine ⟨fun h=>?_,fun h=>?_⟩
 ·have hi:=hmem i h
  have hge:(ofN all).getD i 0 = ((all.getD i 0:Nat):Int):=zay h
  have hsn:=zas 0 h
  have hmi:=zFO (all.take i) (all.getD i 0)
  rw [<- hsn] at hmi
  have hmle:=zFR (l:=all) (k:=i + 1)
  have hp6:=zcg hi
  refine zag (fun (zb:Nat × Nat) s=>match zb with | (w,m)=>(s.sl 3 = .own 6 w/\s.rw 6 = ⟨w,.sli 3 1 false (iL (zk1 (all.take i) m))⟩/\s.sl 4 = .own 8 u/\s.rw 8 = ⟨u,.sli 3 1 false (iL (ofN all))⟩/\s.sl 5 = int i)/\(mxL (all.take i) <= m/\m <= mxL (all.take (i + 1)))) (fun (w,m)=>mxL (all.take (i + 1)) - m) ((v,mxL (all.take i))) ⟨(xc1 Ha),⟨om,om⟩⟩ ?_
  intro (w,m) sb ⟨Hb,hIb⟩
  obtain ⟨hm1,hm2⟩:=hIb
  refine xg4 Hb @zad @zdf hge ?_
  refine ⟨h,h,zaa (zaM _ om) ?_⟩
  refine xg4 Hb @zad @zdf hge ?_
  refine ⟨fun h2=>⟨om,?_⟩,fun h2=>?_⟩
  ·have e:zk1 (all.take i) m ++ [0] = zk1 (all.take i) (m + 1):=zDu _ hm1
   exact zab ((w + 1,m + 1)) ⟨(xc2 Hb e),⟨by dsimp only;omega,by dsimp only;omega⟩⟩
  ·have hgm:(zk1 (all.take i) m).getD (zar (all.getD i 0)) 0 = (ztM (all.take i) (zar (all.getD i 0)):Int):=zgq _ om
   have hcl:ztM (all.take i) (zar (all.getD i 0)) <= 448:=by
    have:=List.length_filter_le (fun s=>zar s == zar (all.getD i 0)) (all.take i)
    rw [List.length_take] at this
    unfold ztM;omega
   have hw:IntKind.i64.wrap ((ztM (all.take i) (zar (all.getD i 0)):Int) + 1) = (ztM (all.take i) (zar (all.getD i 0)):Int) + 1:=zai om om
   have hme:m = mxL (all.take (i + 1)):=om
   have hadd:=zFP (all.take i) (all.getD i 0) m om
   rw [<- hsn] at hadd
   refine ⟨kr,h,h,zaa (zaM _ om) ?_⟩
   refine xg4 Hb @zad @zdf hge ?_
   refine ⟨h,h,zaa (zaM _ om) ?_⟩
   refine xg7 Hb @zad @zdf hge hgm hw hadd ?_
   refine ⟨om,om,om,om,kr,?_⟩
   subst hme
   exact zab ((i + 1,w,u)) ⟨(xc3 Ha Hb (zac h om)),by dsimp only;omega⟩
 ·have:i = all.length:=om
  rw [this,List.take_length,hmx]
theorem znN (a b:Nat) (ha:a < 64) (hb:b < 64) (hp:zar b = zar a + 1):AC Tryz.prog 142 [int a,int b] (.im (int (zhN a b))):=by
 refine xac [.tmp 4] Tryz.func142 fun hl=>?_
 have hpa:=zcg ha
 have hpb:=zcg hb
 have hand:=za1 (a:=a) (b:=b) om om
 have hw1:IntKind.i64.wrap ((zar b:Int) - (zar a:Int)) = 1:=by rw [zai om om];omega
 refine xg1 hand ?_
 refine ⟨fun h=>zaa (zaM b om) ?_,fun h=>?_⟩
 ·have hs:a &&& b = a:=by
   have h9:((a &&& b:Nat):Int) = a:=by simpa using h
   omega
  obtain ⟨hle,hx⟩:=zyb a ha b hb hs
  refine xg0 ?_
  refine zaa (zaM a om) ?_
  have hne:a ≠ b:=fun e=>by rw [e] at hp;omega
  have hw2:IntKind.i64.wrap ((b:Int) - (a:Int)) = ((b - a:Nat):Int):=by rw [zai om om];omega
  have hw3:IntKind.i64.wrap (((b - a:Nat):Int) - 1) = ((b - a - 1:Nat):Int):=by rw [zai om om];omega
  have hand2:=za1 (a:=b) (b:=b - a - 1) om om
  have hlt:b &&& (b - a - 1) < 64:=by have:b &&& (b - a - 1) <= b:=Nat.and_le_left;omega
  have hp6:=zcg hlt
  have h11:((1:Int) != 1) = false:=rfl
  refine xg5 hw1 hw2 hw3 hand2 h11 ?_
  refine zaa (zaM _ om) ?_
  have hmod:((zar (b &&& (b - a - 1)):Nat):Int).tmod 2 = ((zar (b &&& (b - a - 1)) % 2:Nat):Int):=by rw [zcY om];omega
  have hw4:IntKind.i64.wrap (2 * ((zar (b &&& (b - a - 1)) % 2:Nat):Int)) = 2 * ((zar (b &&& (b - a - 1)) % 2:Nat):Int):=zai om om
  have hw5:IntKind.i64.wrap (1 - 2 * ((zar (b &&& (b - a - 1)) % 2:Nat):Int)) = 1 - 2 * ((zar (b &&& (b - a - 1)) % 2:Nat):Int):=zai om om
  refine xg3 hmod hw4 hw5 ?_
  unfold zhN
  rw [if_pos hs]
  split <;> omega
 ·have hs:¬ a &&& b = a:=by
   intro e
   rw [e] at h
   simp at h
  unfold zhN
  rw [if_neg hs]
theorem zpr {l h:List Nat} {i:Nat} (hi:i < l.length):zch (l.take i) h ++ [h.map fun b=>zhN (l.getD i 0) b] = zch (l.take (i + 1)) h:=by
 rw [zas 0 hi];simp [zch]
theorem zko (n:Int) (xs:List Int) (k:Nat) (hk:1 <= k) (hk7:k <= 7):AC Tryz.prog 87 [.ag [int n,zaz xs],int k] (.fr 22 1 (iLL (zch (zaR (za8 n xs) (k - 1) 64) (zaR (za8 n xs) k 64)))):=by
 refine xac [.tmp 4] Tryz.func87 fun hl=>?_
 have hw1:IntKind.i64.wrap ((k:Int) - 1) = ((k - 1:Nat):Int):=by rw [zai om om];omega
 refine xg1 hw1 ?_
 refine zaa (zcL n xs (k - 1)) ?_
 refine xg0 ?_
 refine zaa (zcL n xs k) ?_
 refine xg0 ?_
 have hl1:=zbG (za8 n xs) (k - 1) (Nat.le_refl 64)
 have hl2:=zbG (za8 n xs) k (Nat.le_refl 64)
 have hm1:∀ i,i < (zaR (za8 n xs) (k - 1) 64).length->(zaR (za8 n xs) (k - 1) 64).getD i 0 < 64/\zar ((zaR (za8 n xs) (k - 1) 64).getD i 0) = k - 1:=fun i hi=>by
  have:=zcp.1 (zaj 0 hi);exact ⟨this.1,this.2.2⟩
 have hm2:∀ i,i < (zaR (za8 n xs) k 64).length->(zaR (za8 n xs) k 64).getD i 0 < 64/\zar ((zaR (za8 n xs) k 64).getD i 0) = k:=fun i hi=>by
  have:=zcp.1 (zaj 0 hi);exact ⟨this.1,this.2.2⟩
 generalize zaR (za8 n xs) (k - 1) 64 = lo at *
 generalize zaR (za8 n xs) k 64 = hi at *
 refine zag (fun (za:Nat × Nat × Nat × Nat) s=>match za with | (i,v,a,b)=>(s.sl 5 = .own 11 v/\s.rw 11 = ⟨v,.sli 22 1 false (iLL (zch (lo.take i) hi))⟩/\s.sl 6 = .own 15 a/\s.rw 15 = ⟨a,.sli 3 1 false (iL (ofN lo))⟩/\s.sl 7 = .own 18 b/\s.rw 18 = ⟨b,.sli 3 1 false (iL (ofN hi))⟩/\s.sl 8 = int i)/\(i <= lo.length)) (fun (i,v,a,b)=>lo.length - i) ((0,1,1,1)) ⟨(by and_intros <;> (first | (simp -dsimp only [gr,simprocAttr,zch,iLL];first | done | rfl | (simp;done)) | assumption | rfl)),sp⟩ ?_
 intro (i,v,a,b) sa ⟨Ha,hIa⟩
 have hbl:(zch (lo.take i) hi).length = min i lo.length:=by rw [zcP,List.length_take]
 refine xg2 Ha @zad ?_
 refine ⟨fun h=>?_,fun h=>?_⟩
 ·have hge:(ofN lo).getD i 0 = ((lo.getD i 0:Nat):Int):=zay h
  refine zag (fun (zb:Nat × Nat) s=>match zb with | (j,u)=>(s.sl 5 = .own 11 v/\s.rw 11 = ⟨v,.sli 22 1 false (iLL (zch (lo.take i) hi))⟩/\s.sl 6 = .own 15 a/\s.rw 15 = ⟨a,.sli 3 1 false (iL (ofN lo))⟩/\s.sl 7 = .own 18 b/\s.rw 18 = ⟨b,.sli 3 1 false (iL (ofN hi))⟩/\s.sl 8 = int i/\s.sl 9 = .own 25 u/\s.rw 25 = ⟨u,.sli 3 1 false (iL ((hi.take j).map fun b=>zhN (lo.getD i 0) b))⟩/\s.sl 10 = int j)/\(j <= hi.length)) (fun (j,u)=>hi.length - j) ((0,(sa.rw 25).ver + 1)) ⟨(xc1 Ha),om⟩ ?_
  intro (j,u) sb ⟨⟨h5b,r11b,h6b,r15b,h7b,r18b,h8b,h9b,r25b,h10b⟩,hIb⟩
  simp -dsimp only [↓gp,gq,simprocAttr,gT,h5b,r11b,h6b,r15b,h7b,r18b,h8b,h9b,r25b,h10b,zad]
  refine ⟨fun h2=>?_,fun h2=>?_⟩
  ·have hge2:(ofN hi).getD j 0 = ((hi.getD j 0:Nat):Int):=zay h2
   have ha:=hm1 i h
   have hb:=hm2 j h2
   simp -dsimp only [↓gp,gq,simprocAttr,gT,h5b,r11b,h6b,r15b,h7b,r18b,h8b,h9b,r25b,h10b,zad,hge,hge2]
   refine ⟨kr,h,h,h2,h2,zaa (znN _ _ ha.1 hb.1 om) ?_⟩
   simp -dsimp only [↓gp,gq,simprocAttr,gT,h5b,r11b,h6b,r15b,h7b,r18b,h8b,h9b,r25b,h10b,zad,hge,hge2]
   have e:(hi.take (j + 1)).map (fun b=>zhN (lo.getD i 0) b) = (hi.take j).map (fun b=>zhN (lo.getD i 0) b) ++ [zhN (lo.getD i 0) (hi.getD j 0)]:=by rw [zas 0 h2];simp
   refine ⟨by rw [List.length_map,List.length_take];omega,kr,?_⟩
   exact zab ((j + 1,u + 1)) ⟨(by and_intros <;> (first | (simp -dsimp only [gr,simprocAttr,h5b,r11b,h6b,r15b,h7b,r18b,h8b,h9b,r25b,h10b,zac h2 om,e];first | done | rfl | (simp;done)) | assumption | rfl)),by dsimp only;omega⟩
  ·have hj:j = hi.length:=om
   subst hj
   rw [List.take_length] at r25b
   refine zNy ?_
   simp -dsimp only [↓gp,gq,simprocAttr,gT,h5b,r11b,h6b,r15b,h7b,r18b,h8b,h9b,r25b,h10b,hbl,zi5]
   have e:=zpr (h:=hi) h
   refine ⟨om,?_⟩
   exact zab ((i + 1,v + 1,a,b)) ⟨(by and_intros <;> (first | (simp -dsimp only [gr,simprocAttr,Ha,h5b,r11b,h6b,r15b,h7b,r18b,h8b,h9b,r25b,h10b,zac h om,zpX,e];first | done | rfl | (simp;done)) | assumption | rfl)),by dsimp only;omega⟩
 ·have:i = lo.length:=om
  rw [this,List.take_length]
theorem zMv {f:Nat->Bool} {p:Int} {k:Nat} (h:k + 1 < zbd f):rkF f p (k + 1) = zqz p (zch (zaR f k 64) (zaR f (k + 1) 64)):=by
 unfold rkF
 rw [if_neg om];rfl
theorem zDp {f:Nat->Bool} {p:Int} {k:Nat} (h:zbd f <= k):rkF f p k = 0:=by
 unfold rkF
 rw [if_pos (.inr h)]
def zMw (f:Nat->Bool) (p:Int):List Int:=if isP p = true then zdD f p else []
theorem zgp (n:Int) (xs:List Int) (p:Int):AC Tryz.prog 31 [.ag [int n,zaz xs],int p] (.fr 3 1 (iL (zMw (za8 n xs) p))):=by
 refine xac [.tmp 4] Tryz.func31 fun hl=>?_
 refine xg0 ?_
 refine zaa (zco n xs) ?_
 refine xg0 ?_
 refine zaa (zcM p) ?_
 refine xg0 ?_
 unfold zMw
 refine ⟨fun hp=>?_,fun hp=>?_⟩
 ·have hp:isP p = false:=by simpa using hp
  rw [hp];rfl
 ·have hp:isP p = true:=by simpa using hp
  rw [if_pos hp]
  have hd7:=zbp (za8 n xs)
  have hfl:=zb1 (za8 n xs)
  generalize hf:za8 n xs = f at *
  refine zag (fun (za:Nat × Nat × Nat) s=>match za with | (k,v,w)=>(s.sl 1 = int p/\s.sl 2 = .ref 2 1 0/\s.rw 2 = ⟨1,.box 27 [int n,zaz xs]⟩/\s.sl 5 = .own 10 v/\s.rw 10 = ⟨v,.sli 3 1 false (iL ((zdD f p).take k))⟩/\s.sl 6 = .own 12 w/\s.rw 12 = ⟨w,.sli 3 1 false (iL (zfD f))⟩/\s.sl 7 = int (rkF f p k)/\s.sl 8 = int k)/\(k <= zbd f)) (fun (k,v,w)=>zbd f - k) ((0,1,1)) ⟨(by and_intros <;> (first | (simp -dsimp only [gr,simprocAttr,rkF];first | done | rfl | (simp;done)) | assumption | rfl)),sp⟩ ?_
  intro (k,v,w) sa ⟨Ha,hIa⟩
  refine xg2 Ha hfl ?_
  refine ⟨fun h=>?_,fun h=>?_⟩
  ·have hr1:=zpv f p k
   have hr2:=zpv f p (k + 1)
   have hol:=zbG f k (Nat.le_refl 64)
   have hg:=zeT f h
   have hwk:=zac h om
   have hw1:IntKind.i64.wrap (((zaR f k 64).length:Int) - (rkF f p k:Int)) = ((zaR f k 64).length:Int) - (rkF f p k:Int):=zai om om
   have hw2:IntKind.i64.wrap (((zaR f k 64).length:Int) - (rkF f p k:Int) - (rkF f p (k + 1):Int)) = ((zaR f k 64).length:Int) - (rkF f p k:Int) - (rkF f p (k + 1):Int):=zai om om
   have hts:(zdD f p).take (k + 1) = (zdD f p).take k ++ [((zaR f k 64).length:Int) - rkF f p k - rkF f p (k + 1)]:=by rw [zas 0 (by rw [za2];exact h),ziD f p h]
   have htl:((zdD f p).take k).length <= 7:=by rw [List.length_take,za2];omega
   refine xg3 Ha hfl hwk ?_
   refine ⟨fun h2=>zaa (hf ▸ zko n xs (k + 1) om om) ?_,fun h2=>?_⟩
   ·have hin:=zMv (p:=p) h2
    rw [Nat.add_sub_cancel]
    have hb1:=zcP (zaR f k 64) (zaR f (k + 1) 64)
    have hb2:=zpt (zaR f k 64) (zaR f (k + 1) 64)
    have hb3:=zpu (zaR f k 64) (zaR f (k + 1) 64)
    have hol2:=zbG f (k + 1) (Nat.le_refl 64)
    refine xg3 Ha hfl hwk ?_
    refine zaa (znQ _ p hp om hb2 om) ?_
    rw [<- hin]
    refine xg6 Ha hfl hwk hg hw1 hw2 ?_
    refine ⟨h,h,om,?_⟩
    exact zab ((k + 1,v + 1,w)) ⟨(xc5 Ha hwk hw1 hw2 hts),by dsimp only;omega⟩
   ·have hz:=zDp (p:=p) (show zbd f <= k + 1 by omega)
    rw [hz,Int.natCast_zero,Int.sub_zero] at hw2
    rw [hz,Int.natCast_zero,Int.sub_zero] at hts
    refine xg5 Ha hfl hwk hg hw1 ?_
    refine ⟨h,h,om,?_⟩
    have hw3:IntKind.i64.wrap (((zaR f k 64).length:Int) - (rkF f p k:Int) - 0) = ((zaR f k 64).length:Int) - (rkF f p k:Int):=by rw [Int.sub_zero];exact hw2
    exact zab ((k + 1,v + 1,w)) ⟨(xc7 Ha hwk hw1 hw3 hts hz @Int.natCast_zero),by dsimp only;omega⟩
  ·have:k = (zdD f p).length:=by rw [za2];omega
   rw [this,List.take_length]
theorem zeU (w:Nat->Bool) {G:Nat} (hF:G < 2 ^ 64) (h:∀ s,s < 64->G.testBit s = w s):G = zax w 64:=by
 refine Nat.eq_of_testBit_eq fun s=>?_
 rw [zcZ]
 by_cases hs:s < 64
 ·rw [h s hs];simp [hs]
 ·have:G.testBit s = false:=Nat.testBit_lt_two_pow (Nat.lt_of_lt_of_le hF (Nat.pow_le_pow_right om om))
  simp [this,hs]
theorem zba (w:Nat->Bool) {s:Nat} (h:s < 64):(zax w 64).testBit s = w s:=by rw [zcZ];simp [h]
theorem zcQ {w w':Nat->Bool} (h:∀ s,s < 64->w s = w' s):zax w 64 = zax w' 64 :=
 zeU w' (zbn w 64) fun s hs=>by rw [zba w hs,h s hs]
theorem zJf (w w':Nat->Bool):zax w 64 ||| zax w' 64 = zax (fun s=>w s || w' s) 64 :=
 zeU _ (Nat.or_lt_two_pow (zbn w 64) (zbn w' 64)) fun s hs=>by rw [Nat.testBit_or,zba w hs,zba w' hs]
theorem zpx (w:Nat->Bool) {t:Nat} (ht:t < 64):zax w 64 ||| 2 ^ t = zax (fun s=>w s || s == t) 64 :=
 zeU _ (Nat.or_lt_two_pow (zbn w 64) (Nat.pow_lt_pow_right om ht)) fun s hs=>by
  rw [Nat.testBit_or,zba w hs,Nat.testBit_two_pow]
  congr 1
  by_cases e:t = s
  ·simp [e]
  ·simp [e];exact fun h=>e h.symm
theorem zm2:zax (fun _=>false) 64 = 0:=(zeU (G:=0) (fun _=>false) om (fun s _=>sp)).symm
def ztQ (u:Nat) (t:Nat):Bool:=u &&& t == t
theorem zhA (u:Nat) (hu:u < 64):AC Tryz.prog 149 [int u] (.im (u64 (zax (ztQ u) 64:Nat))):=by
 refine xac [.tmp 2] Tryz.func149 fun hl=>?_
 refine xg0 ?_
 have hinit:zax (fun v=>ztQ u v && decide (u < v)) 64 = 0:=by
  rw [<- zm2]
  refine zcQ fun v hv=>?_
  cases h:(ztQ u v && decide (u < v)) with
  | false=>rfl
  | true =>
    simp [ztQ] at h
    have:u &&& v <= u:=Nat.and_le_left
    omega
 refine zag (fun (t:Nat) s=>(s.sl 0 = int u/\s.sl 3 = u64 (zax (fun v=>ztQ u v && decide (t < v)) 64:Nat)/\s.sl 4 = int t)/\(t <= u/\u &&& t = t)) (fun t=>t) (u) ⟨(xc1 hinit),⟨Nat.le_refl _,Nat.and_self u⟩⟩ ?_
 intro t sa ⟨Ha,hIa⟩
 obtain ⟨htu,hts⟩:=hIa
 have hlt:=zbn (fun v=>ztQ u v && decide (t < v)) 64
 have hcv:IntKind.u64.wrap (t:Int) = (t:Int):=zaI om
 have h2t:(2:Nat) ^ t < 18446744073709551616:=by
  have:(2:Nat) ^ t < 2 ^ 64:=Nat.pow_lt_pow_right om om
  omega
 have hor:ior .u64 (zax (fun v=>ztQ u v && decide (t < v)) 64:Nat) (zg1 .u64 1 (t:Int)) = ((zax (fun v=>ztQ u v && decide (t <= v)) 64:Nat):Int):=by
  rw [zpq om,zDk om h2t,zpx _ om]
  congr 1
  refine zcQ fun v hv=>?_
  by_cases e:v = t
  ·subst e;simp [ztQ,hts]
  ·have e1:decide (t < v) = decide (t <= v):=decide_eq_decide.2 om
   simp [e,e1]
 refine xg3 Ha hcv hor ?_
 refine ⟨fun h0=>?_,fun h0=>?_⟩
 ·have:t = 0:=by simp at h0;omega
  subst this
  simp
 ·have h0:¬ t = 0:=by
   intro e;subst e;simp at h0
  have hw:IntKind.i64.wrap ((t:Int) - 1) = ((t - 1:Nat):Int):=by rw [zai om om];omega
  have hand:=za1 (a:=t - 1) (b:=u) om om
  have hle:(t - 1) &&& u <= t - 1:=Nat.and_le_left
  have hnext:zax (fun v=>ztQ u v && decide ((t - 1) &&& u < v)) 64 = zax (fun v=>ztQ u v && decide (t <= v)) 64:=by
   refine zcQ fun v hv=>?_
   cases hs:ztQ u v with
   | false=>rfl
   | true =>
     simp only [Bool.true_and]
     refine decide_eq_decide.2 ⟨fun h=>?_,fun h=>om⟩
     rcases Nat.lt_or_ge v t with h2 | h2
     ·have:=zFS u hu t om (by rw [Nat.and_comm];exact hts) h0 v h2 (by rw [Nat.and_comm];simpa [ztQ] using hs)
      omega
     ·exact h2
  refine xg5 Ha hcv hor hw hand ?_
  exact zab ((t - 1) &&& u) ⟨(xc6 Ha hcv hor hw hand hnext),⟨om,by rw [Nat.and_comm,Nat.and_assoc,Nat.and_self]⟩⟩
theorem zzu {xs:List Int} {k t:Nat} (h:k < xs.length):zah (xs.take (k + 1)) t = (zah (xs.take k) t || ztQ (xs.getD k 0).toNat t):=by
 rw [zas 0 h]
 unfold zah ztQ
 rw [List.any_append]
 simp
theorem zaT (n:Int) (xs:List Int) (hx:okS xs):AC Tryz.prog 94 [.ag [int n,zaz xs]] (.im (u64 (zax (zah xs) 64:Nat))):=by
 refine xac [.tmp 2] Tryz.func94 fun hl=>?_
 simp only [zaS,zbe,and_true,zcv,zev,zdh,zcU,true_and] at hl
 refine xg0 ?_
 have hinit:zax (zah (xs.take 0)) 64 = 0:=zm2
 refine zag (fun (k:Nat) s=>(s.sl 3 = u64 (zax (zah (xs.take k)) 64:Nat)/\s.sl 7 = zaz xs/\s.sl 8 = int xs.length/\s.sl 9 = int k)/\(k <= xs.length)) (fun k=>xs.length - k) (0) ⟨(xc1 hinit),om⟩ ?_
 intro k sa ⟨Ha,hIa⟩
 refine xg1 Ha ?_
 refine ⟨fun h=>⟨h,h,?_⟩,fun h=>?_⟩
 ·have h6:=ztJ hx h
  have hn:xs.getD k 0 = ((xs.getD k 0).toNat:Int):=om
  have hc:=zhA (xs.getD k 0).toNat om
  rw [<- hn] at hc
  refine zaa hc ?_
  have hm1:=zbn (zah (xs.take k)) 64
  have hm2:=zbn (ztQ (xs.getD k 0).toNat) 64
  have hor:ior .u64 (zax (zah (xs.take k)) 64:Nat) (zax (ztQ (xs.getD k 0).toNat) 64:Nat) = ((zax (zah (xs.take (k + 1))) 64:Nat):Int):=by
   rw [zDk om om,zJf]
   congr 1
   exact zcQ fun t _=>(zzu h).symm
  refine xg2 Ha hor ?_
  exact zab (k + 1) ⟨(xc3 Ha (zac h hl) hor),om⟩
 ·have:k = xs.length:=om
  rw [this,List.take_length]
open Nat (reduceEqDiff reduceMod reduceAdd reduceLT reduceLeDiff reduceSub reduceMul)
theorem zdk {t:Nat} (h:t < 64):zkg (t:Int) = (zar t:Nat):=by rw [zkg,if_pos om];simp
theorem zmT (f:Nat->Bool) (m:Nat):zj5 f (m + 1) = if f m = true then max (zj5 f m) (zar m + 1) else zj5 f m:=rfl
theorem zdl (f:Nat->Bool):AC Tryz.prog 93 [u64 (zax f 64:Nat)] (.im (int ((zbd f:Int) - 1))):=by
 refine xac [.tmp 2] Tryz.func93 fun hl=>?_
 refine xg0 ?_
 have hm1:=zbn f 64
 refine zag (fun (m:Nat) s=>(s.sl 0 = u64 (zax f 64:Nat)/\s.sl 3 = int ((zj5 f m:Int) - 1)/\s.sl 4 = int m)/\(m <= 64)) (fun m=>64 - m) (0) ⟨(by and_intros <;> (first | (simp -dsimp only [gr,simprocAttr,zj5];first | done | rfl | (simp;done)) | assumption | rfl)),om⟩ ?_
 intro m sa ⟨Ha,hIa⟩
 refine xg1 Ha ?_
 refine ⟨fun h=>zaa (zbo (zax f 64) m om om) ?_,fun h=>?_⟩
 ·have h:m < 64:=om
  rw [zba f h]
  refine xg1 Ha ?_
  refine ⟨fun hf=>zaa (zaE _) ?_,fun hf=>?_⟩
  ·refine xg2 Ha (zdk h) ?_
   refine ⟨fun hg=>zaa (zaE _) ?_,fun hg=>?_⟩
   ·refine xg2 Ha (zdk h) ?_
    have e:(zj5 f (m + 1):Int) - 1 = (zar m:Int):=by rw [zmT,if_pos hf];omega
    exact zab (m + 1) ⟨(xc4 Ha (zac h om) (zdk h) e),om⟩
   ·have e:zj5 f (m + 1) = zj5 f m:=by rw [zmT,if_pos hf];omega
    exact zab (m + 1) ⟨(xc3 Ha (zac h om) e),om⟩
  ·have e:zj5 f (m + 1) = zj5 f m:=by rw [zmT,if_neg (by rw [hf];decide)]
   exact zab (m + 1) ⟨(xc3 Ha (zac h om) e),om⟩
 ·have:m = 64:=om
  subst this;rfl
theorem ztI {f:Nat->Bool} {m j:Nat} (hf:f m = true):zaR f j (m + 1) = if j = zar m then zaR f j m ++ [m] else zaR f j m:=by
 rw [zgl,hf]
 by_cases e:j = zar m
 ·subst e;simp
 ·have:¬ zar m = j:=fun h=>e h.symm
  simp [e,this]
theorem zDo {f:Nat->Bool} {m j:Nat} (hf:f m = false):zaR f j (m + 1) = zaR f j m:=by rw [zgl,hf];simp
def zeQ (f:Nat->Bool):Mat:=(List.range (zbd f)).map fun k=>ofN (zaR f k 64)
theorem zfh (f:Nat->Bool):(zeQ f).length = zbd f:=by simp [zeQ]
theorem zd1 (f:Nat->Bool) {k:Nat} (h:k < zbd f):(zeQ f).getD k [] = ofN (zaR f k 64):=by simp [zeQ,List.getD,h]
theorem zhh (f:Nat->Bool):AC Tryz.prog 150 [u64 (zax f 64:Nat)] (.tb 22 3 ((List.range (zbd f)).map fun j=>iL (ofN (zaR f j 64)))):=by
 refine xac [.tmp 2] Tryz.func150 fun hl=>?_
 have hm1:=zbn f 64
 have hd:=zbp f
 refine xg0 ?_
 refine zaa (zdl f) ?_
 have hw:IntKind.i64.wrap ((zbd f:Int) - 1 + 1) = (zbd f:Int):=by rw [zai om om];omega
 refine xg1 hw ?_
 refine ⟨om,om,?_⟩
 refine zC9 (k:=9) (v:=1) (e:=22) (e2:=3) (n:=zbd f) (xr1 hw) (fun j=>by simp -dsimp only [gr,simprocAttr]) (fun (m:Nat) s=>(s.sl 0 = u64 (zax f 64:Nat)/\s.sl 3 = .own 9 1/\s.sl 4 = int m)/\(m <= 64/\TabF s.rw 9 1 22 3 (zbd f) (fun j=>1 + (zaR f j m).length) (fun j=>ofN (zaR f j m)))) (fun m=>64 - m) (0) (fun sX htX hslX hoX=>⟨(xc2 hslX hoX),⟨om,htX⟩⟩) ?_
 intro m sa ⟨Ha,hIa⟩
 obtain ⟨hm,ht⟩:=hIa
 refine xg1 Ha ?_
 refine ⟨fun h=>zaa (zbo (zax f 64) m om om) ?_,fun h=>?_⟩
 ·have h:m < 64:=om
  rw [zba f h]
  refine xg1 Ha ?_
  refine ⟨fun hf=>zaa (zaE _) ?_,fun hf=>?_⟩
  ·have hk:zar m < zbd f:=zfj 64 m h hf
   have hr:=ht.row (zar m) hk
   have hol:=zbG f (zar m) hm
   refine xg7 Ha (zdk h) @ht.top @ziy @zC8 hr @zad ?_
   refine ⟨hk,hk,om,hk,om,zab (m + 1) ⟨(xc2 Ha (zac h om)),⟨om,ht.add hk (r:=ofN (zaR f (zar m) m) ++ [(m:Int)]) (xr1 Ha) (xr1 Ha) (fun x hx=>by simp -dsimp only [gr,simprocAttr,Ha,hx]) (fun j _=>?_) (fun j _=>?_)⟩⟩⟩
   ·rw [ztI hf]
    split
    ·rename_i e;subst e;simp;omega
    ·rfl
   ·rw [ztI hf]
    split
    ·rename_i e;subst e;rw [zaD];rfl
    ·rfl
  ·have e:∀ j,zaR f j (m + 1) = zaR f j m:=fun j=>zDo hf
   refine zab (m + 1) ⟨(xc2 Ha (zac h om)),⟨om,?_⟩⟩
   simp only [e]
   exact ht.same xr0 (fun x=>by simp -dsimp only [gr,simprocAttr])
 ·have:m = 64:=om
  subst this
  exact zDa ht (by decide) om
theorem ziz (f:Nat->Bool):AC Tryz.prog 150 [u64 (zax f 64:Nat)] (.fr 22 1 (iLL (zeQ f))):=by
 have:=(zhh f).flat
 unfold zeQ iLL
 rw [List.map_map] at this ⊢
 exact this
theorem zjn (a b:Nat) (ha:a < 64) (hb:b < 64) (hp:zar b = zar a + 1):AC Tryz.prog 190 [int a,int b] (.im (int (zhN a b))):=by
 refine xac [.tmp 4] Tryz.func190 fun hl=>?_
 have hpa:=zcg ha
 have hand:=zbj (a:=a) (b:=b) om om
 simp -dsimp only [↓gp,gq,simprocAttr,gT,hand]
 refine ⟨fun h=>?_,fun h=>?_⟩
 ·have hs:¬ a &&& b = a:=by
   intro e
   rw [zbP.2 e] at h
   simp at h
  unfold zhN;rw [if_neg hs]
 ·have hs:a &&& b = a:=zbP.1 (by
   have h9:((a ^^^ (a &&& b):Nat):Int) = 0:=by simpa using h
   omega)
  obtain ⟨hle,hx⟩:=zyb a ha b hb hs
  have hne:a ≠ b:=fun e=>by rw [e] at hp;omega
  have hand2:=zbj (a:=b) (b:=a) om om
  rw [Nat.and_comm b a,hx] at hand2
  have hw3:IntKind.i64.wrap (((b - a:Nat):Int) - 1) = ((b - a - 1:Nat):Int):=by rw [zai om om];omega
  have hand3:=za1 (a:=b) (b:=b - a - 1) om om
  have hlt:b &&& (b - a - 1) < 64:=by have:b &&& (b - a - 1) <= b:=Nat.and_le_left;omega
  have hp6:=zcg hlt
  have hmod:((zar (b &&& (b - a - 1)):Nat):Int).tmod 2 = ((zar (b &&& (b - a - 1)) % 2:Nat):Int):=by rw [zcY om];omega
  simp -dsimp only [↓gp,gq,simprocAttr,gT,hand2,hw3,hand3]
  refine zaa (zaE _) ?_
  simp (maxSteps:=9^7) -dsimp only [↓gp,gq,reduceCtorEq,reduceEqDiff,reduceLT,reduceLeDiff,reduceAdd,reduceMul,reduceSub,Nat.reduceBEq,Int.reduceToNat,Int.reduceLE,Int.reduceLT,Int.reduceNeg,reduceMod,gT,zdk hlt,hmod]
  unfold zhN
  rw [if_pos hs]
  refine ⟨by decide,fun h0=>?_,fun h0=>?_⟩
  ·rw [if_pos (by have h9:((zar (b &&& (b - a - 1)) % 2:Nat):Int) = 0:=by simpa using h0
                  omega)]
  ·rw [if_neg (by intro e;rw [e] at h0;simp at h0)]
theorem zJc {lo hi:List Nat} {i j:Nat} (hi':i < lo.length) (hj:j < hi.length):(hi.map fun b=>zhN (lo.getD i 0) b).getD j 0 = zhN (lo.getD i 0) (hi.getD j 0):=by
 simp [List.getD,hj]
theorem zmU (lo hi:List Nat) (k:Nat) (hl1:lo.length <= 64) (hl2:hi.length <= 64) (hm1:∀ i,i < lo.length->lo.getD i 0 < 64/\zar (lo.getD i 0) = k) (hm2:∀ i,i < hi.length->hi.getD i 0 < 64/\zar (hi.getD i 0) = k + 1) :
 AC Tryz.prog 153 [zaz (ofN lo),zaz (ofN hi)] (.tb 22 3 ((zch lo hi).map iL)):=by
 refine xac [.tmp 4] Tryz.func153 fun hl=>?_
 refine xg1 @zad ?_
 refine ⟨om,om,?_⟩
 refine zx3 (k:=12) (v:=1) (e:=22) (e2:=3) (n:=lo.length) (xr1 @zad) (fun j=>by simp -dsimp only [gr,simprocAttr]) (fun (i:Nat) s=>(s.sl 1 = zaz (ofN hi)/\s.sl 5 = .own 12 1/\s.sl 13 = zaz (ofN lo)/\s.sl 14 = int lo.length/\s.sl 15 = int i)/\(i <= lo.length/\TabP s.rw 12 1 22 3 lo.length i (zch (lo.take i) hi))) (fun i=>lo.length - i) (0) (fun sX htX hslX hoX=>⟨(xc3 hslX hoX @zad),⟨om,htX⟩⟩) ?_
 intro i sa ⟨Ha,hIa⟩
 obtain ⟨hi',ht⟩:=hIa
 refine xg4 Ha @ht.top @zbW @zad ?_
 refine ⟨fun h=>?_,fun h=>?_⟩
 ·have hge:(ofN lo).getD i 0 = ((lo.getD i 0:Nat):Int):=zay h
  have hlen:(zch (lo.take i) hi).length = i:=by rw [zcP,List.length_take];omega
  refine ⟨h,h,om,om,h,om,?_⟩
  refine ztB (k:=12) (v:=1) (e:=22) (e2:=3) (n:=lo.length) (i:=i) (d:=24) (vd:=(sa.rw 24).ver + 1) (M:=zch (lo.take i) hi) (r:=List.replicate hi.length 0) (xr1 @ht.top) hlen (fun j hj=>by simp -dsimp only [gr,simprocAttr,ht.row j hj]) (fun j hj=>by simp -dsimp only [gr,simprocAttr,ht.rest j hj]) xr0 (by decide) (by decide) h (fun (j:Nat) s=>(s.sl 1 = zaz (ofN hi)/\s.sl 5 = .own 12 1/\s.sl 13 = zaz (ofN lo)/\s.sl 14 = int lo.length/\s.sl 15 = int i/\s.sl 6 = int i/\s.sl 7 = int (lo.getD i 0:Nat)/\s.sl 26 = zaz (ofN hi)/\s.sl 27 = int hi.length/\s.sl 28 = int j)/\(j <= hi.length/\TabP s.rw 12 1 22 3 lo.length (i + 1) (zch (lo.take i) hi ++ [prt (hi.map fun b=>zhN (lo.getD i 0) b) (List.replicate hi.length 0) j]))) (fun j=>hi.length - j) (0) (fun sX htX hslX hoX=>⟨(xc5 hslX hoX Ha @zad hge),⟨om,by rw [zfe];exact htX⟩⟩) ?_
  intro j sb ⟨Hb,hIb⟩
  obtain ⟨hj,ht2⟩:=hIb
  have hnl:(hi.map fun b=>zhN (lo.getD i 0) b).length = (List.replicate hi.length (0:Int)).length:=sp
  have hrr:=ht2.row i om
  rw [ztC hlen] at hrr
  have hpl:∀ t,(prt (hi.map fun b=>zhN (lo.getD i 0) b) (List.replicate hi.length 0) t).length = hi.length:=fun t=>by rw [zdb hnl];simp
  refine xg7 Hb @ht2.top @zmC hrr hpl @zbW @zad ?_
  refine ⟨fun h2=>?_,fun h2=>?_⟩
  ·have hge2:(ofN hi).getD j 0 = ((hi.getD j 0:Nat):Int):=zay h2
   have ha:=hm1 i h
   have hb:=hm2 j h2
   refine ⟨h2,h2,?_⟩
   refine xg7 Hb @ht2.top @zmC hrr hpl @zbW hge2 ?_
   refine ⟨kr,h,h,zaa (zjn _ _ ha.1 hb.1 om) ?_⟩
   refine xg7 Hb @ht2.top @zmC hrr hpl @zbW hge2 ?_
   refine ⟨h2,om,kr,zab (j + 1) ⟨(xc2 Hb (zac h2 om)),⟨om,?_⟩⟩⟩
   have e:zch (lo.take i) hi ++ [prt (hi.map fun b=>zhN (lo.getD i 0) b) (List.replicate hi.length 0) (j + 1)] = (zch (lo.take i) hi ++ [prt (hi.map fun b=>zhN (lo.getD i 0) b) (List.replicate hi.length 0) j]).set i ((prt (hi.map fun b=>zhN (lo.getD i 0) b) (List.replicate hi.length 0) j).set j (zhN (lo.getD i 0) (hi.getD j 0))):=by
    rw [zx4 hlen,<- zJc h h2,zhy hnl (by simpa using h2)]
   rw [e]
   exact ht2.set om (xr1 Hb) (xr1 Hb) (fun x hx=>by simp -dsimp only [gr,simprocAttr,Hb,hx])
  ·have:j = hi.length:=om
   subst this
   refine zab (i + 1) ⟨(xc3 Ha Hb (zac h om)),⟨om,?_⟩⟩
   have e:prt (hi.map fun b=>zhN (lo.getD i 0) b) (List.replicate hi.length 0) hi.length = hi.map fun b=>zhN (lo.getD i 0) b:=by
    have:=zhx hnl
    simpa using this
   have ht3:=ht2
   rw [e,zpr h] at ht3
   exact ht3.same xr0 (fun x=>by simp -dsimp only [gr,simprocAttr])
 ·have:i = lo.length:=om
  subst this
  rw [List.take_length] at ht
  exact ztA ht.done (by decide) (fun j hj=>by have:=List.mem_range.1 hj;omega)
noncomputable def rkL (f:Nat->Bool) (p:Int) (k:Nat):List Int:=(List.range (zbd f + 1)).map fun j=>if j < k then (rkF f p j:Int) else 0
theorem zzq (f:Nat->Bool) (p:Int) (k:Nat):(rkL f p k).length = zbd f + 1:=by simp [rkL]
theorem zFM (f:Nat->Bool) (p:Int) {k j:Nat} (h:j < zbd f + 1):(rkL f p k).getD j 0 = if j < k then (rkF f p j:Int) else 0:=by simp [rkL,List.getD,h]
theorem zJa (f:Nat->Bool) (p:Int):List.replicate (zbd f + 1) 0 = rkL f p 1:=by
 refine List.ext_getElem (by simp [rkL]) fun j a b=>?_
 simp only [List.getElem_replicate,rkL,List.getElem_map,List.getElem_range]
 split
 ·have:j = 0:=om
  subst this;simp [rkF]
 ·rfl
theorem zJb (f:Nat->Bool) (p:Int) {k:Nat} (h:k < zbd f):(rkL f p k).set k (rkF f p k) = rkL f p (k + 1):=by
 refine List.ext_getElem (by simp [rkL]) fun j a b=>?_
 rw [List.getElem_set]
 simp only [rkL,List.getElem_map,List.getElem_range]
 by_cases e:k = j
 ·subst e;simp
 ·rw [if_neg e]
  by_cases h1:j < k
  ·rw [if_pos h1,if_pos om]
  ·rw [if_neg h1,if_neg om]
theorem zhg (f:Nat->Bool) (p:Int) (hp:isP p = true):AC Tryz.prog 98 [u64 (zax f 64:Nat),int p] (.fr 3 1 (iL (zdD f p))):=by
 refine xac [.tmp 4] Tryz.func98 fun hl=>?_
 have hd:=zbp f
 have hsl:=zfh f
 refine xg0 ?_
 refine zaa (ziz f) ?_
 have hw:IntKind.i64.wrap ((zbd f:Int) + 1) = ((zbd f + 1:Nat):Int):=by rw [zai om om];rfl
 refine xg2 hsl hw ?_
 refine ⟨om,om,?_⟩
 refine zag (fun (za:Nat × Nat × Nat) s=>match za with | (k,v,w)=>(s.sl 1 = int p/\s.sl 5 = .own 11 v/\s.rw 11 = ⟨v,.sli 22 1 false (iLL (zeQ f))⟩/\s.sl 6 = .own 15 w/\s.rw 15 = ⟨w,.sli 3 1 false (iL (rkL f p k))⟩/\s.sl 7 = int k)/\(1 <= k/\k <= zbd f + 1/\(k <= zbd f \/ zbd f = 0))) (fun (k,v,w)=>zbd f + 1 - k) ((1,1,1)) ⟨(xc4 hsl hw (zJa f p) @zdq),by simp;omega⟩ ?_
 intro (k,v,w) sa ⟨Ha,hIa⟩
 obtain ⟨hk1,hk2,hk3⟩:=hIa
 have hrl:=zzq f p k
 refine xg3 Ha hsl hrl ?_
 refine ⟨fun h=>?_,fun h=>?_⟩
 ·have hwk:IntKind.i64.wrap ((k:Int) - 1) = ((k - 1:Nat):Int):=by rw [zai om om];omega
  have hg1:=zd1 f (k:=k - 1) om
  have hg2:=zd1 f h
  have ho1:=zbG f (k - 1) (Nat.le_refl 64)
  have ho2:=zbG f k (Nat.le_refl 64)
  refine xg6 Ha hsl hrl hwk hg1 hg2 ?_
  refine ⟨kr,om,om,h,h,zaa (zmU (zaR f (k - 1) 64) (zaR f k 64) (k - 1) ho1 ho2 (fun i hi=>?_) (fun i hi=>?_)) ?_⟩
  ·have:=zcp.1 (zaj 0 hi);exact ⟨this.1,this.2.2⟩
  ·have:=zcp.1 (zaj 0 hi);exact ⟨this.1,om⟩
  ·refine xg6 Ha hsl hrl hwk hg1 hg2 ?_
   have hrk:zqz p (zch (zaR f (k - 1) 64) (zaR f k 64)) = rkF f p k:=by unfold rkF;rw [if_neg om]
   have hb1:=zcP (zaR f (k - 1) 64) (zaR f k 64)
   have hb3:=zpu (zaR f (k - 1) 64) (zaR f k 64)
   refine zaa (zqI _ p hp om (zpt _ _) om) ?_
   rw [hrk]
   have hset:=zJb f p h
   refine xg7 Ha hsl hrl hwk hg1 hg2 hset ?_
   refine ⟨om,om,kr,?_⟩
   exact zab ((k + 1,v,w)) ⟨(xc6 Ha (zac h om) hwk hg1 hg2 hset),⟨by dsimp only;omega,by dsimp only;omega,by dsimp only;omega⟩⟩
 ·have hrk:∀ j,j < zbd f + 1->(rkL f p k).getD j 0 = (rkF f p j:Int):=fun j hj=>by
   rw [zFM f p hj]
   split
   ·rfl
   ·rw [zDp om];rfl
  generalize rkL f p k = rk at *
  refine ⟨om,om,?_⟩
  refine zag (fun (zb:Nat × Nat × Nat × Nat) s=>match zb with | (k,v,w,u)=>(s.sl 5 = .own 11 v/\s.rw 11 = ⟨v,.sli 22 1 false (iLL (zeQ f))⟩/\s.sl 6 = .own 15 w/\s.rw 15 = ⟨w,.sli 3 1 false (iL rk)⟩/\s.sl 8 = .own 39 u/\s.rw 39 = ⟨u,.sli 3 1 false (iL (prt (zdD f p) (List.replicate (zbd f) 0) k))⟩/\s.sl 41 = int (zbd f:Nat)/\s.sl 42 = int k)/\(k <= zbd f)) (fun (k,v,w,u)=>zbd f - k) ((0,v,w,(sa.rw 39).ver + 1)) ⟨(xc4 Ha hsl @zfe @zdq),om⟩ ?_
  intro (k,v,w,u) sb ⟨Hb,hIb⟩
  have hnl:(zdD f p).length = (List.replicate (zbd f) (0:Int)).length:=by simp [za2]
  have hpl:(prt (zdD f p) (List.replicate (zbd f) 0) k).length = zbd f:=by rw [zdb hnl];simp
  by_cases h2:k < zbd f
  ·have hwk:=zac h2 om
   have hg1:=zd1 f h2
   have ho1:=zbG f k (Nat.le_refl 64)
   have hr1:=zpv f p k
   have hr2:=zpv f p (k + 1)
   have hw1:IntKind.i64.wrap (((zaR f k 64).length:Int) - (rkF f p k:Int)) = ((zaR f k 64).length:Int) - (rkF f p k:Int):=zai om om
   have hw2:IntKind.i64.wrap (((zaR f k 64).length:Int) - (rkF f p k:Int) - (rkF f p (k + 1):Int)) = ((zaR f k 64).length:Int) - (rkF f p k:Int) - (rkF f p (k + 1):Int):=zai om om
   have hk1:=hrk k om
   have hk2:=hrk (k + 1) om
   have hset:(prt (zdD f p) (List.replicate (zbd f) 0) k).set k (((zaR f k 64).length:Int) - rkF f p k - rkF f p (k + 1)) = prt (zdD f p) (List.replicate (zbd f) 0) (k + 1):=by
    rw [<- ziD f p h2,zhy hnl (by simpa using h2)]
   simp -dsimp only [↓gp,gq,simprocAttr,gT,Hb,hsl,hrl,hpl,hwk,hg1,zad,hk1,hk2,hw1,hw2,hset]
   refine ⟨fun _=>⟨kr,h2,h2,om,om,om,om,h2,om,kr,?_⟩,fun h3=>absurd h2 h3⟩
   exact zab ((k + 1,v,w,u)) ⟨(xc8 Hb hwk hg1 hk1 hk2 hw1 hw2 hset),by dsimp only;omega⟩
  ·refine xg4 Hb hsl hrl hpl ?_
   refine ⟨fun h3=>absurd h3 h2,fun _=>?_⟩
   have e:k = (List.replicate (zbd f) (0:Int)).length:=by simp;omega
   have:=zhx hnl
   rw [<- e] at this
   rw [this]
noncomputable def zj4 (n:Int) (xs:List Int):Bool:=zaC n xs && !(xs.length == 0)
theorem zbF {n:Int} {xs:List Int}:zj4 n xs = true ↔ zaC n xs = true/\0 < xs.length:=by
 unfold zj4
 cases zaC n xs <;> simp [Nat.pos_iff_ne_zero]
noncomputable def zdC (n:Int) (xs:List Int):Int:=if zj4 n xs = true then (zar (xs.getD (xs.length - 1) 0).toNat:Int) - 1 else -2
theorem zbQ (n:Int) (xs:List Int):AC Tryz.prog 27 [.ag [int n,zaz xs]] (.im (int (zdC n xs))):=by
 refine xac [.tmp 2] Tryz.func27 fun hl=>?_
 simp only [zaS,zbe,and_true,zcv,zev,zdh,true_and] at hl
 refine xg0 ?_
 refine zaa (zat n xs) ?_
 have hw:0 < xs.length->IntKind.i64.wrap ((xs.length:Int) - 1) = ((xs.length - 1:Nat):Int):=fun h=>by rw [zai om om];omega
 by_cases hh:zj4 n xs = true
 ·obtain ⟨h1,h2⟩:=zbF.1 hh
  have hs:=ztJ (zcb h1) (k:=xs.length - 1) om
  have hc:=zct (s:=xs.getD (xs.length - 1) 0) hs.1 om
  have hz:((xs.length:Int) == 0) = false:=by rw [beq_eq_false_iff_ne];omega
  have hp:=zcg (s:=(xs.getD (xs.length - 1) 0).toNat) om
  refine xg4 h1 hz (hw h2) @Int.toNat_natCast ?_
  refine ⟨om,om,zaa hc ?_⟩
  have hw2:IntKind.i64.wrap ((zar (xs.getD (xs.length - 1) 0).toNat:Int) - 1) = (zar (xs.getD (xs.length - 1) 0).toNat:Int) - 1:=zai om om
  have hd:zdC n xs = (zar (xs.getD (xs.length - 1) 0).toNat:Int) - 1:=if_pos hh
  exact xd2 hw2 hd
 ·have hd:zdC n xs = -2:=if_neg hh
  rw [hd]
  refine xg0 ?_
  exact fun hc h0=>absurd (zbF.2 ⟨by simpa using hc,by simp at h0;exact List.length_pos_iff.2 h0⟩) hh
theorem zc0 (n:Int) (xs:List Int) (hx:okS xs):AC Tryz.prog 143 [int n,zaz xs] (.ag [.im (int n),.fr 3 1 (iL (ofN (zcK (inF xs) true)))]):=by
 refine xac [.cell 4 27] Tryz.func143 fun hl=>?_
 refine xg0 ?_
 refine zaa (zfC true xs hx) ?_
 exact xd0
def kcx (P:Int->List Int->Prop) (rv:RV):Prop:=∃ n xs,rv = .ag [.im (int n),.fr 3 1 (iL xs)]/\P n xs
def cxQ (n:Int) (xs:List Int):Prop:=0 <= n/\n <= 7/\xs.length <= 449
theorem zup {n:Nat} (hn:n <= 6) (f:Nat->Bool) (g:Bool):kcx cxQ (.ag [.im (int n),.fr 3 1 (iL (ofN (zcK f g)))]) :=
 ⟨_,_,rfl,om,om,by rw [zad];exact Nat.le_succ_of_le (zk3 f g)⟩
theorem zIp {a b:Int} (ha:0 <= a/\a < 64) (hb:0 <= b/\b < 64):0 <= zdQ .i64 a b/\zdQ .i64 a b < 64:=zI4 ha hb
theorem zpS {L:List Int} {x:Int} (h:okS L) (hx:0 <= x/\x < 64):okS (L ++ [x]):=fun y hy=>by
 rw [List.mem_append,List.mem_singleton] at hy
 exact hy.elim (h y) (fun e=>e ▸ hx)
theorem zGF {n:Nat} (hn:n <= 6) {x:Int} (h:zJ3 ((2 ^ n:Nat):Int) x):0 <= x/\x < 64:=by
 have h64:=zbq hn
 have hp:0 < 2 ^ n:=Nat.pow_pos om
 obtain ⟨m,rfl,hm⟩:=zi3 hp h
 omega
theorem zpT (bs:List Int) (hbs:bs.length <= 9223372036854775806) (n:Nat) (hn1:1 <= n) (hn:n <= 6):zzn Tryz.prog 111 TC bs ⟨0,.dead⟩ [int n] (kcx cxQ):=by
 intro i h
 refine xag [.cell 4 27] Tryz.func111 fun hl _ s hs hR=>?_
 have e0:s.rw 1000000 = ⟨1,.box TC [.sl false 1 (kL .u8 bs),int i,int h]⟩:=by rw [hR];rfl
 have e1:s.rw 1000500 = ⟨0,.dead⟩:=by rw [hR];rfl
 have elo:∀ k,k < 1000000->s.rw k = ⟨0,.dead⟩:=fun k hk=>by rw [hR];exact zmR hk
 refine xg3 hs e0 elo ?_
 refine zaP (zcA bs hbs [0,1,2,3,4,4,5,6] (by decide) (by decide)) (.some (j:=11) (xs1 elo) (zaU _)) (xs1 e0) (.one (zb4 (xs1 e0)) (.one (zmS (xr1 elo)) .nil)) rfl (fun j hj=>by cases hj;exact ⟨rfl,rfl⟩) fun rv i1 g1 ⟨cnt,hrv,hc⟩=>?_
 subst hrv
 refine xg3 hs e0 elo ?_
 have hcn:0 <= cnt/\cnt <= 6:=by
  have hc:cnt ∈ [0,1,2,3,4,4,5,6]:=hc
  simp at hc;omega
 have h64:=zbq hn
 have hsh:zg1 .i64 1 (n:Int) = ((2 ^ n:Nat):Int):=zaW om
 have hun:IntKind.u64.wrap (n:Int) = (n:Int):=zaI om
 refine zag (fun (za:Nat × Nat × Nat × Int × List Int) s=>match za with | (k,v,j,g,L)=>(s.sl 0 = .ref 1000000 1 0/\s.rw 1000000 = ⟨1,.box TC [.sl false 1 (kL .u8 bs),int j,int g]⟩/\s.rw 1000500 = ⟨0,.dead⟩/\s.sl 1 = int n/\s.sl 4 = .ref 4 1 0/\s.rw 4 = ⟨1,.box 27 [int 0,.v (.slice none 0 0)]⟩/\s.sl 5 = .own 9 v/\s.rw 9 = ⟨v,.sli 3 1 false (iL L)⟩/\s.sl 6 = int cnt/\s.sl 7 = int k)/\(k <= 6/\L.length = k/\okS L)) (fun (k,v,j,g,L)=>6 - k) ((0,1,i1,g1,[])) ⟨(xc4 hs e0 e1 elo),⟨by decide,rfl,fun x hx=>absurd hx sp⟩⟩ ?_
 intro (k,v,j,g,L) sa ⟨Ha,hIa⟩
 obtain ⟨hk,hL,hok⟩:=hIa
 refine xg3 Ha hsh hun ?_
 refine ⟨fun hlt=>?_,fun hlt=>?_⟩
 ·refine zaP (zaZ bs hbs ((2 ^ n:Nat):Int) om) .none (xs1 Ha) (GvL.one (zb4 (xs1 Ha)) (by repeat (first | exact GvL.nil | refine GvL.one (GvA.v _) ?_ | refine GvL.one (GvA.sl _ _ _) ?_))) rfl (fun _ h=>by cases h) fun rv i2 g2 ⟨x,hrv,hx⟩=>?_
  subst hrv
  have hx6:=zGF hn hx
  refine xg3 Ha hsh hun ?_
  refine zaP (ze1 bs hbs 2 (by decide)) .none (xs1 Ha) (GvL.one (zb4 (xs1 Ha)) (by repeat (first | exact GvL.nil | refine GvL.one (GvA.v _) ?_ | refine GvL.one (GvA.sl _ _ _) ?_))) rfl (fun _ h=>by cases h) fun rv i3 g3 ⟨b,hrv⟩=>?_
  subst hrv
  refine xg3 Ha hsh hun ?_
  refine ⟨fun hb=>?_,fun hb=>?_⟩
  ·refine zaP (zaZ bs hbs ((2 ^ n:Nat):Int) om) .none (xs1 Ha) (GvL.one (zb4 (xs1 Ha)) (by repeat (first | exact GvL.nil | refine GvL.one (GvA.v _) ?_ | refine GvL.one (GvA.sl _ _ _) ?_))) rfl (fun _ h=>by cases h) fun rv i4 g4 ⟨y,hrv,hy⟩=>?_
   subst hrv
   have hy6:=zGF hn hy
   refine xg3 Ha hsh hun ?_
   refine ⟨om,?_⟩
   exact zab ((k + 1,v + 1,i4,g4,L ++ [zdQ .i64 x y])) ⟨(xc2 Ha (zac (show k < 6 by omega) om)),⟨by dsimp only;omega,by simp [hL],zpS hok (zIp hx6 hy6)⟩⟩
  ·refine ⟨om,?_⟩
   exact zab ((k + 1,v + 1,i3,g3,L ++ [x])) ⟨(xc2 Ha (zac (show k < 6 by omega) om)),⟨by dsimp only;omega,by simp [hL],zpS hok hx6⟩⟩
 ·refine zaa (zc0 n L hok) ?_
  refine xg1 Ha ?_
  exact ⟨_,j,g,_,zup hn _ _,.one (.ag (.cons (.im _) (.cons (.fr (xs1 Ha) (by decide)) .nil))),sp,by simp -dsimp only [gr,simprocAttr,Ha] <;> rfl,by simp -dsimp only [gr,simprocAttr,Ha]⟩
def szQ (z m:Nat):List Nat:=(List.range m).filter fun s=>zar s == z
theorem zE0 (z m:Nat):szQ z (m + 1) = if zar m = z then szQ z m ++ [m] else szQ z m:=by
 unfold szQ
 rw [List.range_succ,List.filter_append]
 by_cases h:zar m = z <;> simp [h]
theorem zIn (z m:Nat):(szQ z m).length <= m:=by
 unfold szQ
 exact Nat.le_trans (List.length_filter_le _ _) sp
theorem zIo:∀ n,n < 7->∀ z,z < n + 1->0 < (szQ z (2 ^ n)).length:=by decide +kernel
theorem zKF (z m:Nat) (hm:m <= 64):okS (ofN (szQ z m)):=fun x hx=>by
 obtain ⟨s,hs,rfl⟩:=List.mem_map.1 hx
 have:=List.mem_range.1 (List.mem_filter.1 hs).1
 omega
theorem zpR (bs:List Int) (hbs:bs.length <= 9223372036854775806) (n:Nat) (hn1:1 <= n) (hn:n <= 6):zzn Tryz.prog 110 TC bs ⟨0,.dead⟩ [int n] (kcx cxQ):=by
 intro i h
 refine xag [.cell 4 27] Tryz.func110 fun hl _ s hs hR=>?_
 have e0:s.rw 1000000 = ⟨1,.box TC [.sl false 1 (kL .u8 bs),int i,int h]⟩:=by rw [hR];rfl
 have e1:s.rw 1000500 = ⟨0,.dead⟩:=by rw [hR];rfl
 have elo:∀ k,k < 1000000->s.rw k = ⟨0,.dead⟩:=fun k hk=>by rw [hR];exact zmR hk
 have h64:=zbq hn
 have hsh:zg1 .i64 1 (n:Int) = ((2 ^ n:Nat):Int):=zaW om
 have hun:IntKind.u64.wrap (n:Int) = (n:Int):=zaI om
 refine xg3 hs e0 elo ?_
 refine zaP (zaZ bs hbs n om) .none (xs2 e0 elo) (GvL.one (zb4 (xs2 e0 elo)) (by repeat (first | exact GvL.nil | refine GvL.one (GvA.v _) ?_ | refine GvL.one (GvA.sl _ _ _) ?_))) rfl (fun _ h=>by cases h) fun rv i1 g1 ⟨x,hrv,hx⟩=>?_
 subst hrv
 obtain ⟨z0,rfl,hz0⟩:=zi3 hn1 hx
 have hw1:IntKind.i64.wrap (1 + (z0:Int)) = ((z0 + 1:Nat):Int):=by rw [zai om om];omega
 generalize hz:z0 + 1 = z at *
 refine xg4 hs e0 elo hw1 ?_
 refine zag (fun (za:Nat × Nat) s=>match za with | (m,v)=>(s.sl 0 = .ref 1000000 1 0/\s.rw 1000000 = ⟨1,.box TC [.sl false 1 (kL .u8 bs),int i1,int g1]⟩/\s.rw 1000500 = ⟨0,.dead⟩/\s.sl 1 = int n/\s.sl 4 = .ref 4 1 0/\s.rw 4 = ⟨1,.box 27 [int 0,.v (.slice none 0 0)]⟩/\s.sl 5 = int z/\s.sl 6 = .own 15 v/\s.rw 15 = ⟨v,.sli 3 1 false (iL (ofN (szQ z m)))⟩/\s.rw 31 = ⟨0,.dead⟩/\s.sl 7 = int m)/\(m <= 2 ^ n)) (fun (m,v)=>2 ^ n - m) ((0,1)) ⟨(xc4 hs e0 e1 elo),Nat.zero_le _⟩ ?_
 intro (m,v) sa ⟨Ha,hIa⟩
 refine xg3 Ha hsh hun ?_
 have hzl:=zIn z m
 refine ⟨fun hlt=>zaa (zaM m om) ?_,fun hlt=>?_⟩
 ·refine xg3 Ha hsh hun ?_
  have hsu:=zE0 z m
  refine ⟨fun he=>?_,fun he=>?_⟩
  ·have he:zar m = z:=by
    have:((zar m:Nat):Int) = z:=by simpa using he
    omega
   rw [if_pos he] at hsu
   refine xg4 Ha hsh hun @zad ?_
   refine ⟨om,?_⟩
   exact zab ((m + 1,v + 1)) ⟨(xc5 Ha hsu @zaD @zdd (zac hlt om)),by dsimp only;omega⟩
  ·have he:¬ zar m = z:=fun e=>by rw [e] at he;simp at he
   rw [if_neg he] at hsu
   exact zab ((m + 1,v)) ⟨(xc3 Ha hsu (zac hlt om)),by dsimp only;omega⟩
 ·have hm:m = 2 ^ n:=om
  subst hm
  have hpos:=zIo n om z om
  have hAok:=zKF z (2 ^ n) h64
  generalize hA:szQ z (2 ^ n) = A at *
  have hAl:(ofN A).length = A.length:=zad A
  refine zaP (zaZ bs hbs 7 (by decide)) .none (xs1 Ha) (GvL.one (zb4 (xs1 Ha)) (by repeat (first | exact GvL.nil | refine GvL.one (GvA.v _) ?_ | refine GvL.one (GvA.sl _ _ _) ?_))) rfl (fun _ h=>by cases h) fun rv i2 g2 ⟨x,hrv,hx⟩=>?_
  subst hrv
  have hx7:0 <= x/\x < 7:=by obtain ⟨a,b⟩:=hx;omega
  have hw2:IntKind.i64.wrap (1 + x) = 1 + x:=zai om om
  refine xg2 Ha hw2 ?_
  refine zag (fun (zb:Nat × Nat × Nat × Int × List Int) s=>match zb with | (k,u,j,g,L)=>(s.sl 0 = .ref 1000000 1 0/\s.rw 1000000 = ⟨1,.box TC [.sl false 1 (kL .u8 bs),int j,int g]⟩/\s.rw 1000500 = ⟨0,.dead⟩/\s.sl 1 = int n/\s.sl 4 = .ref 4 1 0/\s.rw 4 = ⟨1,.box 27 [int 0,.v (.slice none 0 0)]⟩/\s.sl 6 = .own 15 v/\s.rw 15 = ⟨v,.sli 3 1 false (iL (ofN A))⟩/\s.sl 8 = .own 31 u/\s.rw 31 = ⟨u,.sli 3 1 false (iL L)⟩/\s.sl 9 = int (1 + x)/\s.sl 10 = int k)/\(k <= 7/\L.length = k/\okS L)) (fun (k,u,j,g,L)=>7 - k) ((0,1,i2,g2,[])) ⟨(xc1 Ha),⟨by decide,rfl,fun x hx=>absurd hx sp⟩⟩ ?_
  intro (k,u,j,g,L) sb ⟨Hb,hIb⟩
  obtain ⟨hk,hL,hok⟩:=hIb
  refine xg2 Hb hAl ?_
  refine ⟨fun hlt2=>?_,fun hlt2=>?_⟩
  ·refine zaP (zaZ bs hbs (A.length:Int) om) .none (xs1 Hb) (GvL.one (zb4 (xs1 Hb)) (by repeat (first | exact GvL.nil | refine GvL.one (GvA.v _) ?_ | refine GvL.one (GvA.sl _ _ _) ?_))) rfl (fun _ h=>by cases h) fun rv i3 g3 ⟨y,hrv,hy⟩=>?_
   subst hrv
   obtain ⟨t,rfl,ht⟩:=zi3 hpos hy
   have hgt:=hAok _ (zaj 0 (show t < (ofN A).length by omega))
   refine xg2 Hb hAl ?_
   refine ⟨om,om,om,?_⟩
   exact zab ((k + 1,u + 1,i3,g3,L ++ [(ofN A).getD t 0])) ⟨(xc2 Hb (zac (show k < 7 by omega) om)),⟨by dsimp only;omega,by simp [hL],zpS hok hgt⟩⟩
  ·refine zaa (zc0 n L hok) ?_
   refine xg1 Hb ?_
   exact ⟨_,j,g,_,zup hn _ _,.one (.ag (.cons (.im _) (.cons (.fr (xs1 Hb) (by decide)) .nil))),sp,by simp -dsimp only [gr,simprocAttr,Hb] <;> rfl,by simp -dsimp only [gr,simprocAttr,Hb]⟩
theorem zao (n:Int) (xs:List Int):AC Tryz.prog 35 [.ag [int n,zaz xs]] (.im (bool (zaC n xs))):=by
 refine xac [.tmp 2] Tryz.func35 fun hl=>?_
 refine xg0 ?_
 refine zaa (ziC n xs) ?_
 exact xd0
theorem zfE (t:ByteArray) (b:Nat) (ht:t.size <= 1000):AC Tryz.prog 163 [str t,.v (.int .u8 b)] (.fr 9 1 (sL (zj3 t b))):=by
 refine xac [.tmp 4] Tryz.func163 fun hl=>?_
 refine xg0 ?_
 refine zag (fun (za:Nat × Nat × List ByteArray × Nat) s=>match za with | (i,v,out,st)=>(s.sl 0 = str t/\s.sl 1 = .v (.int .u8 b)/\s.sl 5 = .own 8 v/\s.rw 8 = ⟨v,.sli 9 1 false (sL out)⟩/\s.sl 6 = int st/\s.sl 7 = int i)/\(i <= t.size + 1/\(i <= t.size->out = (znx t b i).1/\st = (znx t b i).2)/\(t.size < i->out = zj3 t b))) (fun (i,v,out,st)=>t.size + 1 - i) ((0,1,[],0)) ⟨xc0,⟨sp,by simp [znx],sp⟩⟩ ?_
 intro (i,v,out,st) sa ⟨Ha,hIa⟩
 obtain ⟨hi,h1,h2⟩:=hIa
 have hle:=zI0 t b i
 refine xg2 Ha @zcu ?_
 refine ⟨fun h=>?_,fun h=>by rw [h2 om]⟩
 obtain ⟨rfl,rfl⟩:=h1 h
 refine ⟨fun hne=>?_,fun he=>?_⟩
 ·have hne:=beq_eq_false_iff_ne.1 hne
  have hlt:i < t.size:=om
  refine ⟨hlt,fun he=>⟨hle.1,om,om,?_⟩,fun he=>?_⟩
  ·have he:byt t i = b:=by have:=beq_iff_eq.1 he;unfold byt;omega
   exact zab ((i + 1,v + 1,(znx t b (i + 1)).1,(znx t b (i + 1)).2)) ⟨(xc4 Ha (zac hlt om) (zkY he) @zpW),⟨om,fun _=>⟨by rw [zkY he],by rw [zkY he]⟩,om⟩⟩
  ·have he:¬ byt t i = b:=by have:=beq_eq_false_iff_ne.1 he;unfold byt;omega
   exact zab ((i + 1,v,(znx t b i).1,(znx t b i).2)) ⟨(xc2 Ha (zac hlt om)),⟨om,fun _=>⟨by rw [zu4 he],by rw [zu4 he]⟩,om⟩⟩
 ·have he:=beq_iff_eq.1 he
  obtain rfl:i = t.size:=om
  refine ⟨hle.1,om,om,?_⟩
  have hw:IntKind.i64.wrap ((t.size:Int) + 1) = ((t.size + 1:Nat):Int):=zac (n:=t.size + 1) om om
  exact zab ((t.size + 1,v + 1,zj3 t b,t.size + 1)) ⟨(by and_intros <;> (first | (simp -dsimp only [gr,simprocAttr,Ha,hw,zpW,zj3];first | done | rfl | (simp;done)) | assumption | rfl)),⟨om,om,fun _=>rfl⟩⟩
theorem zgs (t:ByteArray) (h:OkSet t):AC Tryz.prog 165 [str t] (.tup [.im (int (zq7 t t.size:Nat)),.im (bool true)]):=by
 refine xac [.tmp 2,.tmp 3] Tryz.func165 fun hl=>?_
 simp -dsimp only [↓gp,gq,simprocAttr,gT]
 refine zag (fun (i:Nat) s=>s.sl 0 = str t/\s.sl 4 = int (zq7 t i:Nat)/\s.sl 5 = int i/\(i <= t.size)) (fun i=>t.size - i) (0) (by refine ⟨?_,?_,?_,sp⟩ <;> (first | (simp -dsimp only [gr,simprocAttr,zmK];first | done | rfl | (simp;done)) | assumption | rfl)) ?_
 intro i sa ⟨h0a,h4a,h5a,hIa⟩
 rcases Nat.lt_or_ge i t.size with hi | hi
 ·have hlt:((i:Int) < (t.size:Int)) = True:=eq_true om
  have hb:byt t i = (t.data.toList.getD i 0).toNat:=rfl
  have hl1:=h.letter i hi
  have hhi:=h.hi
  have hv:=zI2 h i om
  have hvl:=zDj h i hi
  have hw1:IntKind.i64.wrap (IntKind.i64.wrap (((t.data.toList.getD i 0).toNat:Nat):Int) - 97) = ((byt t i - 97:Nat):Int):=by
   have e1:IntKind.i64.wrap ((byt t i:Nat):Int) = ((byt t i:Nat):Int):=zai om om
   rw [<- hb,e1,zai om om];omega
  simp -dsimp only [↓gp,gq,simprocAttr,gT,h0a,h4a,h5a,h.dash,h.empty,hlt,hw1]
  refine ⟨hi,zaa (zbC _ _ _) ?_⟩
  have hd:(decide ((0:Int) <= ((byt t i - 97:Nat):Int)) && decide (((byt t i - 97:Nat):Int) <= 5)) = true:=by simp;omega
  have hw64:IntKind.u64.wrap ((byt t i - 97:Nat):Int) = ((byt t i - 97:Nat):Int):=zaI om
  have hsh:zpk .i64 ((zq7 t i:Nat):Int) ((byt t i - 97:Nat):Int) = 0:=by
   rw [zHM om,Nat.shiftRight_eq_div_pow,Nat.div_eq_of_lt hvl];rfl
  have h2k:2 ^ (byt t i - 97) < 64:=by have:2 ^ (byt t i - 97) < 2 ^ 6:=Nat.pow_lt_pow_right om om;omega
  have hadd:IntKind.i64.wrap (((zq7 t i:Nat):Int) + zg1 .i64 1 ((byt t i - 97:Nat):Int)) = ((zq7 t (i + 1):Nat):Int):=by
   rw [zaW om,zai om om,<- zFC h hi];rfl
  simp (maxSteps:=9^7) -dsimp only [↓gp,gq,reduceCtorEq,reduceEqDiff,reduceLT,reduceLeDiff,reduceAdd,reduceMul,reduceSub,Nat.reduceBEq,Int.reduceToNat,Int.reduceLE,Int.reduceLT,Int.reduceNeg,reduceMod,gT,h0a,h4a,h5a,hlt,hw1,hd,hw64,hsh,hadd]
  have hd2:(!(decide True && decide (((byt t i - 97:Nat):Int) <= 5))) = false:=by simp;omega
  refine ⟨fun _=>⟨fun hc=>(by simp at hc),fun _=>zab (i + 1) (by refine ⟨?_,?_,?_,om⟩ <;> (first | (simp -dsimp only [gr,simprocAttr,h0a,h4a,h5a,hw1,hw64,hadd,zac hi om];first | done | rfl | (simp;done)) | assumption | rfl)) (by first | omega | (simp only;omega) | (dsimp only;omega) | (show _ < _;simp;omega))⟩,fun hc=>by rw [hd2] at hc;cases hc⟩
 ·obtain rfl:i = t.size:=om
  have hlt:((t.size:Int) < (t.size:Int)) = False:=eq_false om
  simp -dsimp only [↓gp,gq,simprocAttr,gT,h0a,h4a,h5a,h.dash,h.empty,hlt]
def zvd (ps:List ByteArray):List Int:=ps.map fun p=>((zq7 p p.size:Nat):Int)
theorem ztT {ps:List ByteArray} {k:Nat} (h:k < ps.length):zvd (ps.take (k + 1)) = zvd (ps.take k) ++ [((zq7 (ps.getD k ⟨#[]⟩) (ps.getD k ⟨#[]⟩).size:Nat):Int)]:=by
 unfold zvd
 rw [zas ⟨#[]⟩ h,List.map_append];rfl
def chr (n:Nat):ByteArray:=⟨#[UInt8.ofNat (48 + n)]⟩
structure OkText (t:ByteArray) (n:Nat) (rest:ByteArray) (ps:List ByteArray):Prop where
 size:2 <= t.size/\t.size <= 1000
 pts:1 <= n/\n <= 6
 b0:byt t 0 = 48 + n
 b1:byt t 1 = 58
 tail:t.extract 2 t.size = rest
 rsize:rest.size <= 1000
 full:(rest.toList == (⟨#[]⟩:ByteArray).toList) = false
 parts:zj3 rest 44 = ps
 plen:ps.length <= 1000
 pne:0 < ps.length
 sets:∀ p ∈ ps,OkSet p
 head:zj3 t 58 = [chr n,rest]
 cx:cxP n (zvd ps)
def zzv (r:Row) (ver:Nat) (Kp:PV->Prop):Prop:=r.ver = ver/\match r.kind with
 | .nil=>∃ bs:List Int,[] = bs.map (fun n=>PV.v (.int .u8 n))/\Kp (.v (.string (bs.foldl (fun r n=>r.push (UInt8.ofNat n.toNat)) ByteArray.empty)))
 | .sli _ sz _ c=>sz = 1/\∃ bs:List Int,c = bs.map (fun n=>PV.v (.int .u8 n))/\Kp (.v (.string (bs.foldl (fun r n=>r.push (UInt8.ofNat n.toNat)) ByteArray.empty)))
 | _=>False
theorem ziI (rw:Nat->Row) (j ver:Nat) {Kp:PV->Prop}:zg0 T rw 31 9 (.own j ver) Kp = zzv (rw j) ver Kp:=by
 have ha:(T 31).k = .sli 5:=zNr
 have hb:(T 9).k = .str:=T9k
 have he:(T 5).k = .int .u8:=T5k
 have s1:(T 31).size = 1:=zNs
 have s2:(T 9).size = 1:=T9s
 have s3:(T 5).size = 1:=T5s
 unfold zg0 zzv
 simp only [ha,hb,he,s1,s2,s3,slK]
 cases h:(rw j).kind <;> simp
theorem ztU (ver e:Nat) (fz:Bool) (n:Int) {Kp:PV->Prop}:zzv ⟨ver,.sli e 1 fz [.v (.int .u8 n)]⟩ ver Kp = Kp (.v (.string ([n].foldl (fun r n=>r.push (UInt8.ofNat n.toNat)) ByteArray.empty))):=by
 unfold zzv
 simp only [true_and]
 refine propext ⟨fun ⟨bs,hb,h⟩=>?_,fun h=>⟨[n],rfl,h⟩⟩
 match bs,hb with
 | [m],hb=>simp at hb;subst hb;exact h
theorem zDz (n:Int):lit [.v (.int .u8 n)] = [.v (.int .u8 n)]:=rfl
theorem zk4 (n:Nat):(chr n).size = 1:=rfl
theorem zMy {n:Nat} (h:n <= 9):((chr n).data.toList.getD 0 0).toNat = 48 + n:=by
 show (UInt8.ofNat (48 + n)).toNat = 48 + n
 simp
 omega
theorem zMz {n:Nat} (h:n <= 9):([(48 + n:Int)].foldl (fun r n=>r.push (UInt8.ofNat n.toNat)) ByteArray.empty) ++ ⟨#[]⟩ = chr n:=by
 have:∀ m:Fin 10,([(48 + (m.val:Nat):Int)].foldl (fun r n=>r.push (UInt8.ofNat n.toNat)) ByteArray.empty) ++ ⟨#[]⟩ = chr m.val:=by decide +kernel
 exact this ⟨n,om⟩
theorem zkt {n:Nat} (h1:1 <= n) (h9:n <= 9):AC Tryz.prog 26 [int n] (.im (str (chr n))):=by
 refine xac [.tmp 2] Tryz.func26 fun hl=>?_
 have e0:((n:Int) == 0) = false:=beq_eq_false_iff_ne.2 om
 simp -dsimp only [↓gp,gq,simprocAttr,gT,e0]
 refine zag (fun (za:Nat × ByteArray) s=>match za with | (m,o)=>s.sl 0 = int m/\s.sl 3 = bool false/\s.sl 4 = str o/\((m = n/\o = ⟨#[]⟩) \/ (m = 0/\o = chr n))) (fun (m,o)=>m) ((n,⟨#[]⟩)) (by refine ⟨?_,?_,?_,Or.inl ⟨rfl,rfl⟩⟩ <;> (first | (simp -dsimp only [gr,simprocAttr,decide_eq_false (show ¬ ((n:Int) < 0) by omega)];first | done | rfl | (simp;done)) | assumption | rfl)) ?_
 intro (m,o) sa ⟨h0a,h3a,h4a,hIa⟩
 rcases hIa with ⟨rfl,rfl⟩ | ⟨rfl,rfl⟩
 ·have ht:((m:Int)).tmod 10 = (m:Int):=Int.tmod_eq_of_lt om om
  have hw:IntKind.i64.wrap (48 + (m:Int)) = 48 + (m:Int):=zai om om
  have hw8:IntKind.u8.wrap (48 + (m:Int)) = 48 + (m:Int):=by
   simp [IntKind.wrap,IntKind.bits,IntKind.signed]
   omega
  have hq:((m:Int)).tdiv 10 = 0:=Int.tdiv_eq_zero_of_lt om om
  have hc:=zMz h9
  simp (maxSteps:=9^7) -dsimp only [↓gp,gq,reduceCtorEq,reduceEqDiff,reduceLT,reduceLeDiff,reduceAdd,reduceMul,reduceSub,Nat.reduceBEq,Int.reduceToNat,Int.reduceLE,Int.reduceLT,Int.reduceNeg,reduceMod,gT,h0a,h3a,h4a,ziI,ztU,zDz,ht,hw,hw8,hq,hc]
  refine ⟨fun _=>⟨by decide,fun h=>absurd h om,fun _=>⟨?_,by decide,zab ((0,chr m)) (by refine ⟨?_,?_,?_,Or.inr ⟨rfl,rfl⟩⟩ <;> (first | (simp -dsimp only [gr,simprocAttr,h0a,h3a,h4a,ht,hw,hw8,hq,hc];first | done | rfl | (simp;done)) | assumption | rfl)) (by first | omega | (simp only;omega) | (dsimp only;omega) | (show _ < _;simp;omega))⟩⟩,fun h=>?_⟩
  ·show 1 + 0 <= 9223372036854775807
   omega
  ·simp at h
   omega
 ·simp -dsimp only [↓gp,gq,simprocAttr,gT,h0a,h3a,h4a,show (((0:Nat):Int) != 0) = false from rfl]
theorem zqJ {n:Nat} (h1:1 <= n) (h9:n <= 9):AC Tryz.prog 194 [str (chr n),int 12] (.tup [.im (int n),.im (bool true)]):=by
 refine xac [.tmp 4,.tmp 5] Tryz.func194 fun hl=>?_
 have hc:=zMy h9
 have e45:(((48 + n:Nat):Int) == 45) = false:=beq_eq_false_iff_ne.2 om
 have hz1:((1:Nat):Int) = 1:=rfl
 simp -dsimp only [↓gp,gq,simprocAttr,gT,zk4,hc,e45,hz1]
 refine zag (fun (i:Nat) s=>s.sl 0 = str (chr n)/\s.sl 6 = bool false/\s.sl 7 = str (chr n)/\s.sl 8 = int (if i = 0 then 0 else n:Nat)/\s.sl 9 = int i/\(i <= 1)) (fun i=>1 - i) (0) (by refine ⟨?_,?_,?_,?_,?_,sp⟩ <;> (first | (simp -dsimp only [gr,simprocAttr];first | done | rfl | (simp;done)) | assumption | rfl)) ?_
 intro i sa ⟨h0a,h6a,h7a,h8a,h9a,hIa⟩
 have hi:i = 0 \/ i = 1:=om
 rcases hi with rfl | rfl
 ·have z0:((0:Nat):Int) = 0:=rfl
  have hw8:IntKind.u8.wrap (((48 + n:Nat):Int) - 48) = (n:Int):=by
   simp [IntKind.wrap,IntKind.bits,IntKind.signed]
   omega
  have hw:IntKind.i64.wrap (n:Int) = (n:Int):=zai om om
  have hm:IntKind.i64.wrap (10 * 0) = 0:=by decide
  have ha:IntKind.i64.wrap (0 + (n:Int)) = (n:Int):=by rw [Int.zero_add];exact hw
  have h01:IntKind.i64.wrap (0 + 1) = 1:=by decide
  simp (maxSteps:=9^7) -dsimp only [↓gp,gq,reduceCtorEq,reduceEqDiff,reduceLT,reduceLeDiff,reduceAdd,reduceMul,reduceSub,Nat.reduceBEq,Int.reduceToNat,Int.reduceLE,Int.reduceLT,Int.reduceNeg,reduceMod,gT,h0a,h6a,h7a,h8a,h9a,zk4,hc,hz1,z0]
  refine ⟨fun _=>⟨fun hx=>absurd hx om,fun _=>zab (1) (by refine ⟨?_,?_,?_,?_,?_,om⟩ <;> (first | (simp (maxSteps:=9^7) -dsimp only [gr,reduceEqDiff,reduceLT,reduceAdd,reduceMod,Nat.reduceBEq,h0a,h6a,h7a,h8a,h9a,hw8,hw,hm,ha,h01];first | done | rfl | (simp;done)) | assumption | rfl)) (by first | omega | (simp only;omega) | (dsimp only;omega) | (show _ < _;simp;omega))⟩,fun hx=>absurd hx om⟩
 ·simp -dsimp only [↓gp,gq,simprocAttr,gT,h0a,h6a,h7a,h8a,h9a,zk4,hc,hz1]
  refine zaa (zkt h1 h9) ?_
  simp -dsimp only [↓gp,gq,simprocAttr,gT,h0a,h6a,h7a,h8a,h9a,zk4,beq_self_eq_true]
theorem zm3 {n:Nat} (h1:1 <= n) (h9:n <= 9):AC Tryz.prog 164 [str (chr n)] (.tup [.im (int n),.im (bool true)]):=by
 refine xac [.tmp 2,.tmp 3] Tryz.func164 fun hl=>?_
 refine xg0 ?_
 refine zaa (zqJ h1 h9) ?_
 exact xd0
theorem zhB {t rest:ByteArray} {n:Nat} {ps:List ByteArray} (h:OkText t n rest ps):AC Tryz.prog 108 [str t] (.tup [.ag [.im (int n),.fr 3 1 (iL (zvd ps))],.im (bool true)]):=by
 refine xac [.cell 2 27,.tmp 3] Tryz.func108 fun hl=>?_
 simp -dsimp only [↓gp,gq,simprocAttr,gT]
 refine zaa (zfE t 58 h.size.2) ?_
 rw [h.head]
 have hz2:(((2:Nat):Int) != 2) = false:=rfl
 simp (maxSteps:=9^7) -dsimp only [↓gp,gq,reduceCtorEq,reduceEqDiff,reduceLT,reduceLeDiff,reduceAdd,reduceMul,reduceSub,Nat.reduceBEq,Int.reduceToNat,Int.reduceLE,Int.reduceLT,Int.reduceNeg,reduceMod,gT,zcu,hz2]
 refine ⟨om,zaa (zm3 h.pts.1 (by have:=h.pts;omega)) ?_⟩
 simp (maxSteps:=9^7) -dsimp only [↓gp,gq,reduceCtorEq,reduceEqDiff,reduceLT,reduceLeDiff,reduceAdd,reduceMul,reduceSub,Nat.reduceBEq,Int.reduceToNat,Int.reduceLE,Int.reduceLT,Int.reduceNeg,reduceMod,gT]
 refine ⟨om,zaa (zfE rest 44 h.rsize) ?_⟩
 rw [h.parts]
 simp -dsimp only [↓gp,gq,simprocAttr,gT,zcu]
 refine zag (fun (za:Nat × Nat × PV × RK × Nat × Nat × Nat) s=>match za with | (k,u,fc,kd,v,y,z)=>s.sl 2 = .ref 2 1 0/\s.rw 2 = ⟨1,.box 27 [int 0,.v (.slice none 0 0)]⟩/\s.sl 7 = .ref 7 y 0/\s.rw 7 = ⟨y,.box 27 [int n,fc]⟩/\s.rw 58 = ⟨u,kd⟩/\s.sl 4 = .own 13 z/\s.rw 13 = ⟨z,.sli 9 1 false (sL [chr n,rest])⟩/\s.sl 6 = bool true/\s.sl 8 = .own 30 v/\s.rw 30 = ⟨v,.sli 9 1 false (sL ps)⟩/\s.sl 9 = int k/\(k <= ps.length/\((k = 0/\fc = .v (.slice none 0 0)) \/ (0 < k/\fc = .own 58 u/\kd = .sli 3 1 false (iL (zvd (ps.take k))))))) (fun (k,u,fc,kd,v,y,z)=>ps.length - k) ((0,0,.v (.slice none 0 0),.dead,1,1,1)) (by refine ⟨?_,?_,?_,?_,?_,?_,?_,?_,?_,?_,?_,sp⟩ <;> (first | (simp -dsimp only [gr,simprocAttr,zcu];first | done | rfl | (simp;done)) | assumption | rfl)) ?_
 intro (k,u,fc,kd,v,y,z) sa ⟨h2a,r2a,h7a,r7a,r58a,h4a,r13a,h6a,h8a,r30a,h9a,hIa⟩
 obtain ⟨hk,hfc⟩:=hIa
 have hfl:(zvd (ps.take k)).length = k:=by unfold zvd;simp;omega
 have hr1:[chr n,rest].getD 1 ⟨#[]⟩ = rest:=rfl
 rcases hfc with ⟨rfl,rfl⟩ | ⟨h0,rfl,rfl⟩
 ·simp (maxSteps:=9^7) -dsimp only [↓gp,gq,reduceCtorEq,reduceEqDiff,reduceLT,reduceLeDiff,reduceAdd,reduceMul,reduceSub,Nat.reduceBEq,Int.reduceToNat,Int.reduceLE,Int.reduceLT,Int.reduceNeg,reduceMod,gT,h2a,r2a,h7a,r7a,r58a,h4a,r13a,h6a,h8a,r30a,h9a,zcu,hr1,h.full]
  refine ⟨fun hlt=>⟨om,hlt,hlt,zaa (zgs _ (h.sets _ (zaj ⟨#[]⟩ hlt))) ?_⟩,fun hge=>absurd h.pne hge⟩
  simp -dsimp only [↓gp,gq,simprocAttr,gT,h2a,r2a,h7a,r7a,r58a,h4a,r13a,h6a,h8a,r30a,h9a,zcu]
  have hf1:zvd (ps.take 1) = [((zq7 (ps.getD 0 ⟨#[]⟩) (ps.getD 0 ⟨#[]⟩).size:Nat):Int)]:=ztT hlt
  exact zab ((1,u + 1,.own 58 (u + 1),.sli 3 1 false (iL (zvd (ps.take 1))),v,y,z)) (by refine ⟨?_,?_,?_,?_,?_,?_,?_,?_,?_,?_,?_,⟨om,Or.inr ⟨om,rfl,rfl⟩⟩⟩ <;> (first | (simp -dsimp only [gr,simprocAttr,h2a,r2a,h7a,r7a,r58a,h4a,r13a,h6a,h8a,r30a,h9a,hf1];first | done | rfl | (simp;done)) | assumption | rfl)) (by first | omega | (simp only;omega) | (dsimp only;omega) | (show _ < _;simp;omega))
 ·simp (maxSteps:=9^7) -dsimp only [↓gp,gq,reduceCtorEq,reduceEqDiff,reduceLT,reduceLeDiff,reduceAdd,reduceMul,reduceSub,Nat.reduceBEq,Int.reduceToNat,Int.reduceLE,Int.reduceLT,Int.reduceNeg,reduceMod,gT,h2a,r2a,h7a,r7a,r58a,h4a,r13a,h6a,h8a,r30a,h9a,zcu,zll,hfl,hr1,h.full]
  refine ⟨fun hlt=>⟨om,hlt,hlt,zaa (zgs _ (h.sets _ (zaj ⟨#[]⟩ hlt))) ?_⟩,fun hge=>?_⟩
  ·simp -dsimp only [↓gp,gq,simprocAttr,gT,h2a,r2a,h7a,r7a,r58a,h4a,r13a,h6a,h8a,r30a,h9a,zcu,hfl]
   have hpl:=h.plen
   refine ⟨om,?_⟩
   exact zab ((k + 1,u + 1,.own 58 (u + 1),.sli 3 1 false (iL (zvd (ps.take (k + 1)))),v,y,z)) (by refine ⟨?_,?_,?_,?_,?_,?_,?_,?_,?_,?_,?_,⟨om,Or.inr ⟨om,rfl,rfl⟩⟩⟩ <;> (first | (simp -dsimp only [gr,simprocAttr,h2a,r2a,h7a,r7a,r58a,h4a,r13a,h6a,h8a,r30a,h9a,ztT hlt,zac hlt om];first | done | rfl | (simp;done)) | assumption | rfl)) (by first | omega | (simp only;omega) | (dsimp only;omega) | (show _ < _;simp;omega))
  ·obtain rfl:k = ps.length:=om
   rw [List.take_length]
   have hcx:=zk0 h.cx
   refine zaa (zat n (zvd ps)) ?_
   simp -dsimp only [↓gp,gq,simprocAttr,gT,h2a,r2a,h7a,r7a,r58a,h4a,r13a,h6a,h8a,r30a,h9a,hcx,hfl,List.take_length]
def cx6 (n:Nat) (l:List Nat):Bool:=decide (1 <= n) && decide (n <= 6) && (List.range l.length).all fun k =>
 decide (l.getD k 0 < 2 ^ n) && (decide (k = 0) || (if zx5 (l.getD (k - 1) 0) = zx5 (l.getD k 0) then decide (l.getD (k - 1) 0 < l.getD k 0) else decide (zx5 (l.getD (k - 1) 0) < zx5 (l.getD k 0)))) &&
 (List.range k).all fun i=>!(l.getD i 0 &&& l.getD k 0 == l.getD i 0)
theorem ztS {l:List Nat} {k:Nat} (h:k < l.length):(ofN l).getD k 0 = ((l.getD k 0:Nat):Int):=zay h
theorem zMx {n:Nat} {l:List Nat} (h:cx6 n l = true):cxP n (ofN l):=by
 unfold cx6 at h
 simp only [Bool.and_eq_true,decide_eq_true_eq,List.all_eq_true,List.mem_range,Bool.or_eq_true,Bool.not_eq_true'] at h
 obtain ⟨⟨h1,h6⟩,hall⟩:=h
 refine ⟨om,om,fun k hk=>?_⟩
 rw [zad] at hk
 obtain ⟨⟨ha,hb⟩,hc⟩:=hall k hk
 have hp:=zbq h6
 have hk64:l.getD k 0 < 64:=om
 have at64:∀ i,i < l.length->l.getD i 0 < 64:=fun i hi=>by have:=(hall i hi).1.1;omega
 refine ⟨?_,fun h0=>?_,fun i hi=>?_⟩
 ·rw [ztS hk]
  unfold zcI
  refine decide_eq_true ⟨om,om,om,?_⟩
  rw [zgi]
  omega
 ·have hb:=hb.resolve_left om
  have hj64:=at64 (k - 1) om
  rw [ztS hk,ztS (show k - 1 < l.length by omega)]
  generalize l.getD (k - 1) 0 = a at *
  generalize l.getD k 0 = b at *
  have ea:zkg (a:Int) = (zx5 a:Nat):=by rw [zkg,if_pos om,Int.toNat_natCast,zmF hj64]
  have eb:zkg (b:Int) = (zx5 b:Nat):=by rw [zkg,if_pos om,Int.toNat_natCast,zmF hk64]
  unfold znC
  rw [ea,eb,decide_eq_true (show (0:Int) <= a/\(a:Int) < 64 by omega),decide_eq_true (show (0:Int) <= b/\(b:Int) < 64 by omega)]
  simp only [Bool.true_and]
  by_cases he:zx5 a = zx5 b
  ·rw [if_pos he] at hb
   rw [if_pos om]
   exact decide_eq_true (by have:=of_decide_eq_true hb;omega)
  ·rw [if_neg he] at hb
   rw [if_neg om]
   exact decide_eq_true (by have:=of_decide_eq_true hb;omega)
 ·have hq:=hc i hi
  have hi64:=at64 i om
  rw [ztS hk,ztS (show i < l.length by omega),za1 om om]
  intro e
  have e:l.getD i 0 &&& l.getD k 0 = l.getD i 0:=Int.ofNat.inj e
  rw [e] at hq
  simp at hq
theorem zye (ps:List ByteArray):zvd ps = ofN (ps.map fun p=>zq7 p p.size):=by
 unfold zvd ofN
 rw [List.map_map];rfl
theorem zj6 {t rest:ByteArray} {n:Nat} {ps:List ByteArray} (size:decide (2 <= t.size/\t.size <= 1000) = true) (pts:decide (1 <= n/\n <= 6) = true) (b0:byt t 0 = 48 + n) (b1:byt t 1 = 58) (tail:t.extract 2 t.size = rest)
 (rsize:decide (rest.size <= 1000) = true) (full:(rest.toList == (⟨#[]⟩:ByteArray).toList) = false) (parts:zj3 rest 44 = ps) (plen:decide (0 < ps.length/\ps.length <= 1000) = true) (sets:ps.all zI1 = true)
 (head:zj3 t 58 = [chr n,rest]) (cx:cx6 n (ps.map fun p=>zq7 p p.size) = true):OkText t n rest ps :=
 ⟨of_decide_eq_true size,of_decide_eq_true pts,b0,b1,tail,of_decide_eq_true rsize,full,parts,(of_decide_eq_true plen).2,(of_decide_eq_true plen).1,fun p hp=>zFB (List.all_eq_true.1 sets p hp),head,by rw [zye];exact zMx cx⟩
def ex2:ByteArray:=⟨#[54,58,97,99,100,44,98,99,100,44,97,98,101,44,97,99,101,44,98,100,101,44,97,98,102,44,98,99,102,44,97,100,102,44,99,101,102,44,100,101,102]⟩
def ps2:List ByteArray:=[⟨#[97,99,100]⟩,⟨#[98,99,100]⟩,⟨#[97,98,101]⟩,⟨#[97,99,101]⟩,⟨#[98,100,101]⟩,⟨#[97,98,102]⟩,⟨#[98,99,102]⟩,⟨#[97,100,102]⟩,⟨#[99,101,102]⟩,⟨#[100,101,102]⟩]
theorem zPJ:OkText ex2 6 ⟨#[97,99,100,44,98,99,100,44,97,98,101,44,97,99,101,44,98,100,101,44,97,98,102,44,98,99,102,44,97,100,102,44,99,101,102,44,100,101,102]⟩ ps2:=zj6 kr kr kr kr kr kr kr kr kr kr kr kr
def ex3:ByteArray:=⟨#[53,58,97,98,44,98,99,44,99,100,44,97,101,44,100,101]⟩
def ps3:List ByteArray:=[⟨#[97,98]⟩,⟨#[98,99]⟩,⟨#[99,100]⟩,⟨#[97,101]⟩,⟨#[100,101]⟩]
theorem zPK:OkText ex3 5 ⟨#[97,98,44,98,99,44,99,100,44,97,101,44,100,101]⟩ ps3:=zj6 kr kr kr kr kr kr kr kr kr kr kr kr
def ex4:ByteArray:=⟨#[53,58,97,98,99,44,99,100,101]⟩
def ps4:List ByteArray:=[⟨#[97,98,99]⟩,⟨#[99,100,101]⟩]
theorem zPL:OkText ex4 5 ⟨#[97,98,99,44,99,100,101]⟩ ps4:=zj6 kr kr kr kr kr kr kr kr kr kr kr kr
def ex5:ByteArray:=⟨#[54,58,97,98,99,44,97,99,100,44,97,98,101,44,97,100,101,44,98,99,102,44,99,100,102,44,98,101,102,44,100,101,102]⟩
def ps5:List ByteArray:=[⟨#[97,98,99]⟩,⟨#[97,99,100]⟩,⟨#[97,98,101]⟩,⟨#[97,100,101]⟩,⟨#[98,99,102]⟩,⟨#[99,100,102]⟩,⟨#[98,101,102]⟩,⟨#[100,101,102]⟩]
theorem zPM:OkText ex5 6 ⟨#[97,98,99,44,97,99,100,44,97,98,101,44,97,100,101,44,98,99,102,44,99,100,102,44,98,101,102,44,100,101,102]⟩ ps5:=zj6 kr kr kr kr kr kr kr kr kr kr kr kr
def ex6:ByteArray:=⟨#[54,58,97,98,44,99,100,44,101,102]⟩
def ps6:List ByteArray:=[⟨#[97,98]⟩,⟨#[99,100]⟩,⟨#[101,102]⟩]
theorem zPN:OkText ex6 6 ⟨#[97,98,44,99,100,44,101,102]⟩ ps6:=zj6 kr kr kr kr kr kr kr kr kr kr kr kr
def ex7:ByteArray:=⟨#[52,58,97,98,44,98,99,44,99,100]⟩
def ps7:List ByteArray:=[⟨#[97,98]⟩,⟨#[98,99]⟩,⟨#[99,100]⟩]
theorem zPO:OkText ex7 4 ⟨#[97,98,44,98,99,44,99,100]⟩ ps7:=zj6 kr kr kr kr kr kr kr kr kr kr kr kr
def dx1:ByteArray:=⟨#[54,58,97,98,100,44,97,98,101,44,97,99,101,44,98,99,101,44,99,100,101,44,97,99,102,44,98,99,102,44,97,100,102,44,98,100,102]⟩
theorem zPl:OkText dx1 6 ⟨#[97,98,100,44,97,98,101,44,97,99,101,44,98,99,101,44,99,100,101,44,97,99,102,44,98,99,102,44,97,100,102,44,98,100,102]⟩ [⟨#[97,98,100]⟩,⟨#[97,98,101]⟩,⟨#[97,99,101]⟩,⟨#[98,99,101]⟩,⟨#[99,100,101]⟩,⟨#[97,99,102]⟩,⟨#[98,99,102]⟩,⟨#[97,100,102]⟩,⟨#[98,100,102]⟩]:=zj6 kr kr kr kr kr kr kr kr kr kr kr kr
def dx2:ByteArray:=⟨#[52,58,97,98,99,44,97,98,100]⟩
theorem zPm:OkText dx2 4 ⟨#[97,98,99,44,97,98,100]⟩ [⟨#[97,98,99]⟩,⟨#[97,98,100]⟩]:=zj6 kr kr kr kr kr kr kr kr kr kr kr kr
def dxL:List ByteArray:=[ex5,ex2,dx1,ex3,ex7,ex6,ex4,dx2]
theorem zKE {t:ByteArray} (h:t ∈ dxL):∃ n rest ps,OkText t n rest ps/\n <= 6/\ps.length <= 10:=by
 simp only [dxL,List.mem_cons,List.not_mem_nil,or_false] at h
 rcases h with rfl | rfl | rfl | rfl | rfl | rfl | rfl | rfl
 ·exact ⟨_,_,_,zPM,by decide,by decide⟩
 ·exact ⟨_,_,_,zPJ,by decide,by decide⟩
 ·exact ⟨_,_,_,zPl,by decide,by decide⟩
 ·exact ⟨_,_,_,zPK,by decide,by decide⟩
 ·exact ⟨_,_,_,zPO,by decide,by decide⟩
 ·exact ⟨_,_,_,zPN,by decide,by decide⟩
 ·exact ⟨_,_,_,zPL,by decide,by decide⟩
 ·exact ⟨_,_,_,zPm,by decide,by decide⟩
theorem zAq {m:Nat} {ps:List ByteArray} (hm:m <= 6) (hps:ps.length <= 10):kcx cxQ (.ag [.im (int m),.fr 3 1 (iL (zvd ps))]) :=
 ⟨_,_,rfl,om,om,by rw [zye,zad,List.length_map];omega⟩
theorem zgX (n:Nat) (hn1:1 <= n) (hn:n <= 6):AC Tryz.prog 107 [int n] (.tup [.ag [.im (int n),.fr 3 1 (iL (ofN (zcK (inF (ofN (List.range (2 ^ n - 1)))) true)))],.im (bool true)]):=by
 refine xac [.cell 2 27,.tmp 3] Tryz.func107 fun hl=>?_
 have h64:=zbq hn
 have hp:0 < 2 ^ n:=Nat.pow_pos om
 have hsh:zg1 .i64 1 (n:Int) = ((2 ^ n:Nat):Int):=zaW om
 have hun:IntKind.u64.wrap (n:Int) = (n:Int):=zaI om
 have hw:IntKind.i64.wrap (((2 ^ n:Nat):Int) - 1) = ((2 ^ n - 1:Nat):Int):=by rw [zai om om];omega
 refine xg0 ?_
 refine zaa (zbC _ _ _) ?_
 have hin:(decide (1 <= (n:Int)) && decide ((n:Int) <= 6)) = true:=by rw [decide_eq_true om,decide_eq_true om];rfl
 refine xg1 hin ?_
 refine zag (fun (za:Nat × Nat) s=>match za with | (k,v)=>(s.sl 0 = int n/\s.sl 2 = .ref 2 1 0/\s.rw 2 = ⟨1,.box 27 [int 0,.v (.slice none 0 0)]⟩/\s.sl 4 = .own 10 v/\s.rw 10 = ⟨v,.sli 3 1 false (iL (ofN (List.range k)))⟩/\s.sl 5 = int k)/\(k <= 2 ^ n - 1)) (fun (k,v)=>2 ^ n - 1 - k) ((0,1)) ⟨xc0,Nat.zero_le _⟩ ?_
 intro (k,v) sa ⟨⟨h0a,h2a,r2a,h4a,r10a,h5a⟩,hIa⟩
 simp -dsimp only [↓gp,gq,simprocAttr,gT,h0a,h2a,r2a,h4a,r10a,h5a,hsh,hun,hw]
 refine ⟨fun h=>?_,fun h=>?_⟩
 ·refine xg8 h0a h2a r2a h4a r10a h5a @zad @List.length_range ?_
  refine ⟨om,?_⟩
  exact zab ((k + 1,v + 1)) ⟨(by and_intros <;> (first | (simp -dsimp only [gr,simprocAttr,h0a,h2a,r2a,h4a,r10a,h5a,List.range_succ,zaD,zdd,zac h om];first | done | rfl | (simp;done)) | assumption | rfl)),by dsimp only;omega⟩
 ·have hk:k = 2 ^ n - 1:=om
  rw [hk] at r10a ⊢
  have hok:okS (ofN (List.range (2 ^ n - 1))):=fun x hx=>by
   obtain ⟨s,hs,rfl⟩:=List.mem_map.1 hx
   have:=List.mem_range.1 hs
   omega
  refine zaa (zc0 n _ hok) ?_
  exact xd6 h0a h2a r2a h4a r10a h5a
theorem zhV (bs:List Int) (hbs:bs.length <= 9223372036854775806):zzn Tryz.prog 50 TC bs ⟨0,.dead⟩ [] (kcx cxQ):=by
 intro i h
 refine xag [.cell 2 27] Tryz.func50 fun hl _ s hs hR=>?_
 have e0:s.rw 1000000 = ⟨1,.box TC [.sl false 1 (kL .u8 bs),int i,int h]⟩:=by rw [hR];rfl
 have e1:s.rw 1000500 = ⟨0,.dead⟩:=by rw [hR];rfl
 have elo:∀ k,k < 1000000->s.rw k = ⟨0,.dead⟩:=fun k hk=>by rw [hR];exact zmR hk
 refine xg3 hs e0 elo ?_
 refine zaP (zcA bs hbs [1,2,3,4,4,5,5,6] (by decide) (by decide)) (.some (j:=9) (xs1 elo) (zaU _)) (xs1 e0) (.one (zb4 (xs1 e0)) (.one (zmS (xr1 elo)) .nil)) rfl (fun j hj=>by cases hj;exact ⟨rfl,rfl⟩) fun rv i1 g1 ⟨n0,hrv,hc⟩=>?_
 subst hrv
 obtain ⟨n,rfl,hn1,hn⟩:∃ n:Nat,n0 = n/\1 <= n/\n <= 6:=by
  have hc:n0 ∈ [1,2,3,4,4,5,5,6]:=hc
  simp at hc
  exact ⟨n0.toNat,om,om,om⟩
 refine xg3 hs e0 elo ?_
 refine zaP (zaZ bs hbs 8 (by decide)) .none (xs2 e0 elo) (GvL.one (zb4 (xs2 e0 elo)) (by repeat (first | exact GvL.nil | refine GvL.one (GvA.v _) ?_ | refine GvL.one (GvA.sl _ _ _) ?_))) rfl (fun _ h=>by cases h) fun rv i2 g2 ⟨x,hrv,hx⟩=>?_
 subst hrv
 refine xg3 hs e0 elo ?_
 refine ⟨fun h0=>zaa (zgX n hn1 hn) ?_,fun h0=>⟨fun h1=>?_,fun h1=>?_⟩⟩
 ·refine xg2 e0 elo ?_
  exact ⟨_,i2,g2,_,zup hn _ _,.one (.ag (.cons (.im _) (.cons (.fr xs0 (by decide)) .nil))),sp,by simp -dsimp only [gr,simprocAttr] <;> rfl,by simp -dsimp only [gr,simprocAttr,e1]⟩
 ·refine zaP (zpV bs hbs dxL (by decide) (by decide)) (.some (j:=25) (xs1 elo) (zqb _)) (xs1 e0) (.one (zb4 (xs1 e0)) (.one (zmS (xr1 elo)) .nil)) rfl (fun j hj=>by cases hj;exact ⟨rfl,rfl⟩) fun rv i3 g3 ⟨t,hrv,ht⟩=>?_
  subst hrv
  obtain ⟨m,rest,ps,hok,hm,hps⟩:=zKE ht
  refine xg3 hs e0 elo ?_
  refine zaa (zhB hok) ?_
  refine xg2 e0 elo ?_
  exact ⟨_,i3,g3,_,zAq hm hps,.one (.ag (.cons (.im _) (.cons (.fr xs0 (by decide)) .nil))),sp,by simp -dsimp only [gr,simprocAttr] <;> rfl,by simp -dsimp only [gr,simprocAttr,e1]⟩
 ·have hP:∀ (S:St) (K:St->Prop) (u1:Dm S) (u2:Dm K) (lents:List PV) (Ka:RV->Prop) (d:Nat) (g:FuncId),zzn Tryz.prog g TC bs ⟨0,.dead⟩ [int n] (kcx cxQ)->S.rw 1000000 = ⟨1,.box TC [.sl false 1 (kL .u8 bs),int i2,int g2]⟩->(d % 1000 == 0) = false ->
   (∀ (j:Nat) (y m:Int) (xs:List Int),cxQ m xs->K (zal (S.row 1000000 ⟨1,.box TC [.sl false 1 (kL .u8 bs),int j,int y]⟩) d (.ag [.im (int m),.fr 3 1 (iL xs)])))->zf0 Tryz.prog g lents Ka (znD Tryz.prog g lents [.ref 1000000 1 0,int n] (some d) (kk S u1) (kk K u2)):=fun S K u1 u2 lents Ka d g hg hS hd hK =>
   zaP hg .none hS (GvL.one (zb4 (by rw [hS])) (by repeat (first | exact GvL.nil | refine GvL.one (GvA.v _) ?_ | refine GvL.one (GvA.sl _ _ _) ?_))) hd (fun _ h=>by cases h) fun rv i3 g3 ⟨m,xs,hrv,hq⟩=>by subst hrv;exact hK i3 g3 m xs hq
  have hp:=zpR bs hbs n hn1 hn
  have hz:=zpT bs hbs n hn1 hn
  refine ⟨fun h2=>⟨fun h3=>hP _ _ _ _ _ _ _ _ hp xr0 rfl fun i3 g3 m xs hq=>?_,fun h3=>hP _ _ _ _ _ _ _ _ hz xr0 rfl fun i3 g3 m xs hq=>?_⟩,fun h2=>⟨fun h3=>hP _ _ _ _ _ _ _ _ hp xr0 rfl fun i3 g3 m xs hq=>?_,fun h3=>hP _ _ _ _ _ _ _ _ hz xr0 rfl fun i3 g3 m xs hq=>?_⟩⟩
  all_goals
   refine xg2 e0 elo ?_
   exact ⟨_,i3,g3,_,⟨_,_,rfl,hq⟩,.one (.ag (.cons (.im _) (.cons (.fr xs0 (by decide)) .nil))),sp,by simp -dsimp only [gr,simprocAttr] <;> rfl,by simp -dsimp only [gr,simprocAttr,e1]⟩
theorem zhW (bs:List Int) (hbs:bs.length <= 9223372036854775806):zzn Tryz.prog 46 TC bs ⟨0,.dead⟩ [] (kcx fun n xs=>0 <= n/\n <= 7/\xs.length <= 450):=by
 intro i h
 refine xag [.cell 2 27] Tryz.func46 fun hl _ s hs hR=>?_
 have e0:s.rw 1000000 = ⟨1,.box TC [.sl false 1 (kL .u8 bs),int i,int h]⟩:=by rw [hR];rfl
 have e1:s.rw 1000500 = ⟨0,.dead⟩:=by rw [hR];rfl
 have elo:∀ k,k < 1000000->s.rw k = ⟨0,.dead⟩:=fun k hk=>by rw [hR];exact zmR hk
 refine xg3 hs e0 elo ?_
 refine zaP (zhV bs hbs) .none (xs2 e0 elo) (GvL.one (zb4 (xs2 e0 elo)) (by repeat (first | exact GvL.nil | refine GvL.one (GvA.v _) ?_ | refine GvL.one (GvA.sl _ _ _) ?_))) rfl (fun _ h=>by cases h) fun rv i1 g1 ⟨n,xs,hrv,hq⟩=>?_
 subst hrv
 obtain ⟨hn0,hn7,hxl⟩:=hq
 refine xg3 hs e0 elo ?_
 refine zaP (zaZ bs hbs 14 (by decide)) .none (xs2 e0 elo) (GvL.one (zb4 (xs2 e0 elo)) (by repeat (first | exact GvL.nil | refine GvL.one (GvA.v _) ?_ | refine GvL.one (GvA.sl _ _ _) ?_))) rfl (fun _ h=>by cases h) fun rv i2 g2 ⟨x,hrv,hx⟩=>?_
 subst hrv
 refine xg3 hs e0 elo ?_
 refine ⟨fun h0=>?_,fun h0=>⟨fun h1=>?_,fun h1=>?_⟩⟩
 ·refine zaP (zcA bs hbs [0,7,2] (by decide) (by decide)) (.some (j:=11) (xs1 elo) (zaU _)) (xs1 e0) (.one (zb4 (xs1 e0)) (.one (zmS (xr1 elo)) .nil)) rfl (fun j hj=>by cases hj;exact ⟨rfl,rfl⟩) fun rv i3 g3 ⟨m,hrv,hc⟩=>?_
  subst hrv
  have hm:0 <= m/\m <= 7:=by
   have hc:m ∈ [0,7,2]:=hc
   simp at hc;omega
  refine xg2 e0 elo ?_
  exact ⟨_,i3,g3,_,⟨m,xs,rfl,hm.1,hm.2,om⟩,.one (.ag (.cons (.im _) (.cons (.fr xs0 (by decide)) .nil))),sp,by simp -dsimp only [gr,simprocAttr] <;> rfl,by simp -dsimp only [gr,simprocAttr,e1]⟩
 ·refine ⟨kr,zzp (zcT bs hbs 66 (by decide)) (zlk _) (i:=i2) (h:=g2) xs0 rfl ?_⟩
  obtain ⟨y,j3,g3,hr,hy⟩:=zrg bs 66 i2 g2
  rw [hr]
  have hy66:0 <= y/\y < 66:=by obtain ⟨a,b⟩:=hy;omega
  have hw:IntKind.i64.wrap (y - 1) = y - 1:=zai om om
  refine xg3 e0 elo hw ?_
  refine ⟨om,kr,?_⟩
  exact ⟨_,j3,g3,_,⟨n,xs ++ [y - 1],rfl,hn0,hn7,by simp;omega⟩,.one (.ag (.cons (.im _) (.cons (.fr xs0 (by decide)) .nil))),sp,by simp -dsimp only [gr,simprocAttr] <;> rfl,by simp -dsimp only [gr,simprocAttr,e1]⟩
 ·exact ⟨_,i2,g2,_,⟨n,xs,rfl,hn0,hn7,om⟩,.one (.ag (.cons (.im _) (.cons (.fr xs0 (by decide)) .nil))),sp,by simp -dsimp only [gr,simprocAttr] <;> rfl,by simp -dsimp only [gr,simprocAttr,e1]⟩
end Go.Proofs.YtkledeboboplmaaGreatDoor
