import Derived.Test.YtkeglpnnedflnaaGreatDoorPBmTy
import Derived.Test.YtkeglpnnedflnaaGreatDoorPBlCmd1
namespace Go.Proofs.YtkeglpnnedflnaaGreatDoor
open Go.ChangeShapes Go.WideShapes Go.ChangeAt Go.RowKit Go.Joins Go.Deep
def rwL (t:Ty) (M:Mem) (i:Nat):List t.den:=match M[i]? with | some (.row t' xs _ _ _)=>if h:t'=t then h ▸ xs else [] | _=>[]
set_option linter.unusedSimpArgs false
set_option linter.unusedVariables false
set_option maxRecDepth 100000
set_option maxHeartbeats 4000000
open GoRep (rep bulk)
def scW:List ByteArray:=[(⟨#[]⟩:ByteArray),(⟨#[115,101,108,101,99,116,101,100]⟩:ByteArray),(⟨#[112,101,114,115,111,110,97,108]⟩:ByteArray),(⟨#[115,117,98,116,114,101,101]⟩:ByteArray),(⟨#[98,111,120,101,115]⟩:ByteArray)]
def evW:List ByteArray:=[(⟨#[110,101,119]⟩:ByteArray),(⟨#[103,111,110,101]⟩:ByteArray),(⟨#[102,108,97,103,115]⟩:ByteArray),(⟨#[110,97,109,101,115]⟩:ByteArray)]
def Zdk (ws:List ByteArray):Nat→List GToken
 | 0=>[]
 | k + 1=>Zdk ws k ++ [Zan (Zaa ws k)]
theorem Zho (ws:List ByteArray):∀ k,(Zdk ws k).length=k
 | 0=>rfl
 | k + 1=>by unfold Zdk; rw [List.length_append,Zho ws k]; rfl
def evN (b:Int):Nat→List GToken
 | 0=>[]
 | k + 1=>if bitB b k=true then evN b k ++ [Zan (Zaa evW k)] else evN b k
theorem ZGX (b:Int):∀ k,(evN b k).length≤k
 | 0=>Nat.le_refl _
 | k + 1=>by
  have:=ZGX b k
  unfold evN
  exact Zo0
def ZAy (z:GScope):List GToken:=if 3≤z.1 then [ZdK] ++ Zdk z.2.1 z.2.1.length ++ [Za5] else []
def Zhp (z:GScope):List GToken:=[ZdK,Zan (Zaa scW (Int.toNat z.1))] ++ ZAy z ++ [ZdK] ++ evN z.2.2 4 ++ [Za5,Za5]
def Zig (l:List GScope):Nat→List GToken
 | 0=>[Zan (⟨#[115,101,116]⟩:ByteArray)]
 | k + 1=>Zig l k ++ Zhp (Zad l k)
def ZbT (f:GFilter):List GToken:=if Zar f=false then [] else if f.1=false then [Zan (⟨#[110,111,110,101]⟩:ByteArray)] else Zig f.2 f.2.length
theorem Zf7 {f:GFilter} (h:Zar f=true) (h1:f.1=true):f.2.length≤3∧∀ k,k < f.2.length→Zay (Zad f.2 k)=true:=by
 unfold Zar at h
 rw [if_pos h1,Bool.and_eq_true,Zaz] at h
 refine ⟨by omega,fun k hk=>?_⟩
 have h2:List.any f.2 (fun z0:GScope=>!Zay z0)=false:=by simpa using h.2
 have h3:=List.any_eq_false.1 h2 (Zad f.2 k) (List.mem_of_getElem? (Zat (t:=Zae) hk))
 simpa using h3
theorem Zcw {z:GScope} (h:Zay z=true):(1≤z.1∧z.1≤4)∧(3≤z.1→z.2.1.length≤3):=by
 unfold Zay at h
 simp only [Bool.and_eq_true,Zaz] at h
 refine ⟨h.1,fun h3=>?_⟩
 have:=h.2.2
 rw [if_neg (by omega),Bool.and_eq_true,Zaz] at this
 omega
theorem ZCn {z:GScope} (h:Zay z=true):(ZAy z).length≤5:=by
 unfold ZAy
 split
 ·rename_i h3
  have:=(Zcw h).2 h3
  simp only [List.length_append,List.length_singleton,Zho]
  omega
 ·exact Nat.zero_le _
theorem ZCo {z:GScope} (h:Zay z=true):(Zhp z).length≤14:=by
 have h1:=ZCn h
 have h2:=ZGX z.2.2 4
 unfold Zhp
 exact Zo2
theorem ZwI {f:GFilter} (h:Zar f=true) (h1:f.1=true):∀ k,k≤f.2.length→(Zig f.2 k).length≤1 + 14 * k
 | 0,_=>Nat.le_refl _
 | k + 1,hk=>by
  have h2:=ZwI h h1 k (by omega)
  have h3:=ZCo ((Zf7 h h1).2 k (by omega))
  unfold Zig
  rw [List.length_append]
  omega
theorem Zqa (f:GFilter):(ZbT f).length≤50:=by
 unfold ZbT
 split
 ·exact Nat.zero_le _
 ·rename_i h
  split
  ·exact (show 1≤50 by decide)
  ·rename_i h1
   have h2:=eq_true_of_ne_false h
   have h3:=eq_true_of_ne_false h1
   have h4:=ZwI h2 h3 _ (Nat.le_refl _)
   have h5:=(Zf7 h2 h3).1
   omega
theorem ZH3 {f:GFilter} (h:Zar f=true) (h1:f.1=false):[Zan (⟨#[110,111,110,101]⟩:ByteArray)]=ZbT f:=by
 unfold ZbT
 rw [if_neg (by rw [h]; decide),if_pos h1]
theorem ZKc {f:GFilter} {y:Nat} (h:Zar f=true) (h1:f.1=true) (hk:y≤f.2.length) (hk2:¬ ((y:Nat):Int) < ((f.2.length:Nat):Int)):Zig f.2 y=ZbT f:=by
 obtain rfl:y=f.2.length:=by omega
 unfold ZbT
 rw [if_neg (by rw [h]; decide),if_neg (by rw [h1]; decide)]
theorem ZwJ  : Zaq Tryz.prog 159 [] (.c (.row 0 0)) [.row Zah scW 0 0 none]:=by
 refine bc0 [] [] [] [] L0 Tryz.func159 (fun hwf=>?_)
 exact Zwh
def ZwK:ZaD Tryz.prog:=⟨159,[],fun x=>True,fun x=>.c (.row 0 0),fun x=>[.row Zah scW 0 0 none],fun x hx=>ZwJ ,Tryz.call159⟩
theorem ZsY  : Zaq Tryz.prog 160 [] (.c (.row 0 0)) [.row Zah evW 0 0 none]:=by
 refine bc0 [] [] [] [] L0 Tryz.func160 (fun hwf=>?_)
 exact Zwi
def ZsZ:ZaD Tryz.prog:=⟨160,[],fun x=>True,fun x=>.c (.row 0 0),fun x=>[.row Zah evW 0 0 none],fun x hx=>ZsY ,Tryz.call160⟩
end Go.Proofs.YtkeglpnnedflnaaGreatDoor
