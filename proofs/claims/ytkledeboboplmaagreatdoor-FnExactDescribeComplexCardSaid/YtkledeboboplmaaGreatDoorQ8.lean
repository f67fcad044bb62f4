/- DERIVED by an AI agent. -/
import Derived.Test.YtkledeboboplmaaGreatDoorQ7
namespace Go.Proofs.YtkledeboboplmaaGreatDoor
open Go.Abs
set_option linter.unusedSimpArgs false
set_option linter.unusedVariables false
theorem zcM (n:Int) (xs:List Int):AC Tryz.prog 6 [.ag [int n,zax xs]] (.im (str (zKI n xs))):=by
 refine AC.go (rs:=[.tmp 2]) zaD mixed Tryz.func6 rfl rfl rfl (by kernel_rfl) fun hl=>?_
 simp -dsimp only [↓gp,gq,simprocAttr,gT]
 refine zab (zaE n xs) ?_
 simp -dsimp only [↓gp,gq,simprocAttr,gT]
 unfold zKI
 refine ⟨fun hc=>by rw [if_neg (by intro h;rw [h] at hc;cases hc)],fun hc=>⟨by kernel_rfl,zab (zbH n xs) ?_⟩⟩
 have hc:zaL n xs = true:=by simpa using hc
 rw [if_pos hc]
 obtain ⟨h1,h6,_⟩:=zaP.1 hc
 obtain ⟨m,rfl⟩:∃ m:Nat,n = m:=⟨n.toNat,by omega⟩
 have b1:=zlO m xs
 have b2:=zpa (zag xs)
 have b2l:=zbQ (zag xs)
 have hd7:=zbj (zag xs)
 have b3:=zA1 xs
 have b3l:=zob xs
 have b4:=zxF xs
 have b5:=zpb (zag xs) 2
 have b5l:=zaY (zag xs) 2
 have b6:=zGw m xs 2
 have hE:=zgu m xs hc
 change AC _ _ _ (.im (int (euN xs))) at hE
 have hD:=zgA m xs 2
 have hF:=zcW m xs
 rw [zpd hc] at hF
 have hsz:=zFt m xs
 simp only [List.mem_cons,List.not_mem_nil,or_false,forall_eq_or_imp,forall_eq] at hsz
 obtain ⟨s1,s2,s3,s4,s5,s6,s7,s8,s9⟩:=hsz
 unfold zK3
 rw [zGx]
 simp -dsimp only [↓gp,gq,simprocAttr,gT]
 refine zab (zbg (by omega) (by omega)) ?_
 simp -dsimp only [↓gp,gq,simprocAttr,gT]
 refine ⟨(by simp only [ByteArray.size_append,szl,List.size_toArray,List.length_cons,List.length_nil];omega),(by simp only [ByteArray.size_append,szl,List.size_toArray,List.length_cons,List.length_nil];omega),zab hF ?_⟩
 simp -dsimp only [↓gp,gq,simprocAttr,gT]
 refine zab (zcY _ (by omega) b2) ?_
 simp -dsimp only [↓gp,gq,simprocAttr,gT]
 refine ⟨(by simp only [ByteArray.size_append,szl,List.size_toArray,List.length_cons,List.length_nil];omega),(by simp only [ByteArray.size_append,szl,List.size_toArray,List.length_cons,List.length_nil];omega),zab (zlJ m xs hc) ?_⟩
 simp -dsimp only [↓gp,gq,simprocAttr,gT]
 refine zab (zcY _ (by omega) b3) ?_
 simp -dsimp only [↓gp,gq,simprocAttr,gT]
 refine ⟨(by simp only [ByteArray.size_append,szl,List.size_toArray,List.length_cons,List.length_nil];omega),(by simp only [ByteArray.size_append,szl,List.size_toArray,List.length_cons,List.length_nil];omega),zab hE ?_⟩
 simp -dsimp only [↓gp,gq,simprocAttr,gT]
 refine zab (zbg (by omega) (by omega)) ?_
 simp -dsimp only [↓gp,gq,simprocAttr,gT]
 refine ⟨(by simp only [ByteArray.size_append,szl,List.size_toArray,List.length_cons,List.length_nil];omega),by kernel_rfl,by kernel_rfl,(by simp only [ByteArray.size_append,szl,List.size_toArray,List.length_cons,List.length_nil];omega),zab (ze4 m xs 2 hc rfl) ?_⟩
 simp -dsimp only [↓gp,gq,simprocAttr,gT]
 refine zab (zcY _ (by omega) b5) ?_
 simp -dsimp only [↓gp,gq,simprocAttr,gT]
 refine ⟨(by simp only [ByteArray.size_append,szl,List.size_toArray,List.length_cons,List.length_nil];omega),(by simp only [ByteArray.size_append,szl,List.size_toArray,List.length_cons,List.length_nil];omega),zab hD ?_⟩
 simp -dsimp only [↓gp,gq,simprocAttr,gT]
 refine zab (zbg (by omega) (by omega)) ?_
 simp -dsimp only [↓gp,gq,simprocAttr,gT]
 refine ⟨(by simp only [ByteArray.size_append,szl,List.size_toArray,List.length_cons,List.length_nil];omega),(by simp only [ByteArray.size_append,szl,List.size_toArray,List.length_cons,List.length_nil];omega),zab (zh6 m xs) ?_⟩
 simp -dsimp only [↓gp,gq,simprocAttr,gT]
 refine ⟨(by simp only [ByteArray.size_append,szl,List.size_toArray,List.length_cons,List.length_nil];omega),by kernel_rfl,by kernel_rfl,(by simp only [ByteArray.size_append,szl,List.size_toArray,List.length_cons,List.length_nil];omega),zab (zhH m xs hc) ?_⟩
 simp -dsimp only [↓gp,gq,simprocAttr,gT]
 refine ⟨(by simp only [ByteArray.size_append,szl,List.size_toArray,List.length_cons,List.length_nil];omega),(by simp only [ByteArray.size_append,szl,List.size_toArray,List.length_cons,List.length_nil];omega),zab (zju m xs) ?_⟩
 simp -dsimp only [↓gp,gq,simprocAttr,gT]
 exact (by simp only [ByteArray.size_append,szl,List.size_toArray,List.length_cons,List.length_nil];omega)
end Go.Proofs.YtkledeboboplmaaGreatDoor
