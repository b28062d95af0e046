import Derived.Test.YtkeglpnnedflnaaGreatDoorRows
import Derived.Test.YtkeglpnnedflnaaGreatDoorPBmFr
import Derived.HandedShaped
import Derived.Shelf.Vars
import Derived.Stop.LaidErr
import Derived.Lib.LaidTab
import Derived.LaidMore
import Derived.Stop.Joined
import Derived.LaidLaws
set_option linter.unusedSimpArgs false
set_option linter.unusedVariables false
set_option maxRecDepth 100000
namespace Go.Proofs.YtkeglpnnedflnaaGreatDoor
theorem ZyY {W:World} {g:Nat} {v:Value} (h:W.cell? ⟨g,0,none⟩=some v):∃ cs,Zek W.heap[g]?=some cs∧cs[0]?=some v:=by
 unfold World.cell? at h
 split at h <;> simp_all [Zek]
theorem ZEO {W:World} {g:Nat} {cs:Array Value} (h:Zek W.heap[g]?=some cs):g < W.heap.size:=by
 refine Nat.lt_of_not_le fun hle=>?_
 rw [Array.getElem?_eq_none hle] at h
 cases h
theorem ZEP {W:World} {n:String} {g:Nat} {cs:Array Value} (hg:Program.globalNamed Tryz.prog n=some g) (h:W.var? Tryz.prog n=some cs):Zek W.heap[g]?=some cs:=by
 unfold World.var? at h
 rw [hg] at h
 exact h
theorem ZMd : "*" ++ "errors.errorString" = "*errors.errorString" := by decide
theorem ZMe (u : TypeId) (h : Program.typeName? Tryz.prog 3 u = some "*errors.errorString") : u = 209 :=
 typeName_ptr_named (nm := "errors.errorString") (by rw [ZMd]; kernel_rfl) (by kernel_rfl) (by decide) u (by rw [ZMd]; exact h)
def ZEQ : List (String × DataW Unit) := [("math/bits.deBruijn32tab", Rows.laid_math_bits_deBruijn32tab), ("math/bits.deBruijn64tab", Rows.laid_math_bits_deBruijn64tab), ("internal/strconv.uint64pow10", Rows.laid_internal_strconv_uint64pow10), ("strconv.ErrRange", Rows.laid_strconv_ErrRange), ("strconv.ErrSyntax", Rows.laid_strconv_ErrSyntax)]
theorem ZAj {W : World} {n : String} {text : List UInt8} {r : List (String × DataW Unit)} {g : Nat} (h : laidMet Tryz.prog ((n, .iface "*errors.errorString" (.ptr (.agg [.lit (.string text)]))) :: r) W)
 (hg:Program.globalNamed Tryz.prog n=some g) (ht:(Tryz.prog.globals[g]?).map (·.type)=some 135):ZMu W.heap[g]?∧g < W.heap.size∧g ∉ foots []:=by
 obtain ⟨a,s,hv,-,-,-⟩:=laid_sentinel h hg ht Tryz.underlying135 ZMe Tryz.underlying209 Tryz.underlying211 rfl rfl Tryz.underlying9 (by kernel_rfl) (by kernel_rfl)
 have hb:=ZEP hg hv
 exact ⟨⟨_,_,hb⟩,ZEO hb,by simp [foots]⟩
theorem ZMf:(Rows.laid_internal_strconv_uint64pow10:DataW Unit)=Lib.tabData .u64 Lib.pow10Tab:=by kernel_rfl
theorem ZER {W:World} (h:W.ShapedOpen Tryz.prog) (hL:laidMetH Tryz.prog ZEQ W):ZiD W []:=by
 rw [MakeChecks.laidMetH_plain _ _ _ (by kernel_rfl)] at hL
 intro g hg
 simp only [globs,List.mem_cons,List.not_mem_nil,or_false] at hg
 rcases hg with rfl | rfl | rfl | rfl
 ·obtain ⟨m,hm⟩:=cell_of_shapedOpen_int (zero:=#[.int .i64 0]) (t:=3) (g:=0) h (of_decide_eq_true (by kernel_rfl)) (by kernel_rfl) rfl (by kernel_rfl) (by kernel_rfl) Tryz.underlying3
  obtain ⟨cs,h1,h2⟩:=ZyY hm
  exact ⟨⟨cs,m,h1,h2⟩,ZEO h1,by simp [foots]⟩
 ·exact ZAj (n := "strconv.ErrSyntax") hL.tail.tail.tail.tail (by kernel_rfl) (by kernel_rfl)
 ·exact ZAj (n := "strconv.ErrRange") hL.tail.tail.tail (by kernel_rfl) (by kernel_rfl)
 ·have h2 : laidMet Tryz.prog (("internal/strconv.uint64pow10", Lib.tabData .u64 Lib.pow10Tab) :: [("strconv.ErrRange", Rows.laid_strconv_ErrRange), ("strconv.ErrSyntax", Rows.laid_strconv_ErrSyntax)]) W := by
   rw [← ZMf]
   exact hL.tail.tail
  have ht:=Lib.tabIs_of_head (g:=3) (t:=201) (e:=190) (n:=20) (by kernel_rfl) (by kernel_rfl) Tryz.underlying201 Tryz.underlying190 (by kernel_rfl) (by kernel_rfl) h2
  have hb:=ZEP (g:=3) (by kernel_rfl) ht
  exact ⟨hb,ZEO hb,by simp [foots]⟩
theorem ZGT (os:Os) (args:Array Value):laidMetH Tryz.prog ZEQ ((World.doorLaid Tryz.prog 400 os).forCall (fun _ _=>0) ⟨#[],args,[]⟩).memory :=
 laidMetH_of_parts3 (fuel:=8) (laidMet_of_run' 8 (by kernel_rfl) (by kernel_rfl)) (by kernel_rfl) (by kernel_rfl)
theorem ZES {H:Type} {enc:TypeId × Value→H} {a:Assume} {C:Checked} {os:Os} {f:FuncId} {fn:Func} {s:ChangeSpec} {conds:List PathCond} {apart fresh handsOn again:Bool} {X:World→Array Value→Prop}
 (hX:∀ (w w' : World) (args:Array Value),w.heap=w'.heap→X w args→X w' args)
 (own:ownKnob C.prog.godebug=none) (started:os.Started) (noInit:C.prog.inits.idxOf? f=none) (hfn:C.prog.funcs[f]?=some fn)
 (witness:∃ (w:World) (tape:Tape) (i:Input),w.os=os∧(w.forCall tape i).Shaped C.prog∧i.vars=[]∧Input.okWide C.prog (w.forCall tape i) .any w.heap.size f i ∧
  ((s.pre enc C.prog fn conds apart (w.forCall tape i).memory i.args∧X (w.forCall tape i).memory i.args)∧sizedMet enc C.prog fn (OpenSpec.ofChange s) apart (w.forCall tape i).memory i.args)∧a.holds C.prog (lone (Frame.enter C.prog f i.args .normal) [] (w.forCall tape i)))
 (contract:∀ (W:World) (base:Nat) (args:Array Value) (ds gs:List (DataW H)) (before:List MemPlace),
  (∀ (j:Nat) t v,fn.params[j]?=some t→args[j]?=some v→Value.okWide C.prog W .any base t v) →
  DataW.Whole enc C.prog fn.params.toList s.vars apart W args.toList ds gs before→X W args→W.ShapedOpen C.prog →
  Calls C.prog f args W fun e W'=>∃ v,e=.returned v∧s.post enc C.prog fn apart fresh handsOn again W args v W') :
 ReturnsInHanded a C os f .any (fun w args=>(s.pre enc C.prog fn conds apart w args∧X w args)∧sizedMet enc C.prog fn (OpenSpec.ofChange s) apart w args) (s.post enc C.prog fn apart fresh handsOn again):=by
 refine returnsInHanded_of_calls own started noInit witness ?_
 intro w tape i _ hsh _ hok hpre hholds
 obtain ⟨_,_,_,fn',hfn',_,_,_,_,hval⟩:=hok
 have e:fn'=fn:=Option.some.inj (hfn'.symm.trans hfn)
 subst e
 obtain ⟨⟨⟨ds,gs,before,hw,hc⟩,hx⟩,hz⟩:=hpre
 have hw':=DataW.Whole.of_heap (w':=w.forCall tape i) (by rfl) hw
 refine (contract (w.forCall tape i) w.heap.size i.args ds gs before hval hw' (hX _ _ _ (by rfl) hx) hsh).mono fun e W' ⟨v,he,hp⟩=>?_
 subst he
 exact ChangeSpec.post_blind hp
end Go.Proofs.YtkeglpnnedflnaaGreatDoor
