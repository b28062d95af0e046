import Derived.Test.YtafhbjjcpncfnaaGreatIBmK
import Derived.Test.YtafhbjjcpncfnaaGreatITypes
set_option linter.unusedSimpArgs false
set_option linter.unusedVariables false
namespace Go.Proofs.YtafhbjjcpncfnaaGreat
open Go.ChangeShapes Go.WideShapes Go.ChangeAt Go.RowKit Go.Joins Go.Deep
open GoRep (rep bulk)
section
variable {P:Program} {X:List Nat} {W:World} {E:Env} {M:Mem} {a:Act} {tm:List AV} {o:Oper} {T:Tab P} {ops:Array Oper}
theorem Zx5 {N:Mem} {i v:Nat} {r:Zhx} (h:Zdy M i v=some r):Zdy (M ++ N) i v=some r:=by
 have h1:=ZdC h
 have hl:=(List.getElem?_eq_some_iff.1 h1).1
 unfold Zdy
 rw [List.getElem?_append_left hl,h1]
 simp
theorem ZjV {N:Mem}:∀ {L:Lnd},ZeK M L=true→ZeK (M ++ N) L=true
 | .no,_=>rfl
 | .at i v c,h=>by
  have h:Zeo M i v c=true:=h
  show Zeo (M ++ N) i v c=true
  unfold Zeo at h ⊢
  split at h
  ·rename_i t xs cv cc hM
   exact Zrw
  ·cases h
theorem ZqE {N:Mem} {i v:Nat} {r:Zhx} (h:ZkO M i v=some r):ZkO (M ++ N) i v=some r:=by
 unfold ZkO at h ⊢
 split at h
 ·rename_i t xs cv cc hh hM
  exact Zrw
 ·cases h
theorem Zib {N:Mem} {i v c n k o:Nat} {r:Zhx} (h:Zc1 M i v c n k o=some r):Zc1 (M ++ N) i v c n k o=some r:=by
 unfold Zc1 at h ⊢
 split at h
 ·rename_i t xs cv cc hM
  exact Zrw
 ·cases h
theorem ZqF {N:Mem} {c:AC} {q:Lnd × Zhx} (h:ZgT M c=some q):ZgT (M ++ N) c=some q:=by
 unfold ZgT at h ⊢
 split at h
 ·rename_i L t xs
  cases hl:ZeK M L with
  | false=>rw [hl] at h; cases h
  | true=>rw [hl] at h; simp only [ZjV hl]; exact h
 ·rename_i i v
  cases hr:Zdy M i v with
  | none=>rw [hr] at h; cases h
  | some r=>rw [hr] at h; simp only [Zx5 hr]; exact h
 ·rename_i i v c n k o
  cases hr:Zc1 M i v c n k o with
  | none=>rw [hr] at h; cases h
  | some r=>rw [hr] at h; simp only [Zib hr]; exact h
 ·cases h
theorem ZKJ {N:Mem} {i:Nat} {b:Blk} (h:M[i]?=some b):(M ++ N)[i]?=some b:=by
 rw [List.getElem?_append_left (List.getElem?_eq_some_iff.1 h).1]
 exact h
theorem ZDF {n:Nat} (h:clsO T o=n) (hn:n≤1):ZM2 T o=n:=by
 unfold clsO at h
 cases hc:isCut T o with
 | true=>rw [hc] at h; simp only [cond_true] at h; omega
 | false=>rw [hc] at h; exact h
def ZOU (N:Mem) (M:Mem) (r r' : OR):Prop:=r'.need∧r'.val=r.val∧r'.mem=M ++ N∧r.mem=M
theorem ZbF {N:Mem} {p:Prop} {v:AV} (h:p):ZOU N M ⟨p,v,M⟩ ⟨p,v,M ++ N⟩:=⟨h,rfl,rfl,rfl⟩
set_option maxHeartbeats 1000000 in
theorem ZKK (N:Mem) (hc:clsO T o=0) (hn:(opA P tm M o).need):ZOU N M (opA P tm M o) (opA P tm (M ++ N) o):=by
 have hc:=ZDF hc (Nat.zero_le 1)
 unfold ZM2 at hc
 unfold opA at hn ⊢
 cases ho:o.op <;> simp only [ho] at hn hc ⊢
 case alloc=>cases hc
 case box=>cases hc
 case store=>cases hc
 case buildSlice t _ _=>exfalso; cases hf:ZxP P t <;> rw [hf] at hc <;> cases hc
 case makeSlice=>cases hc
 case move=>exact ZbF trivial
 case assign=>exact ZbF trivial
 case pick c x y=>split at hn <;> first | exact ZbF hn | exact hn.elim
 case load t x =>
  split at hn
  ·rename_i i q hx
   split at hn
   ·rename_i l hb
    simp only [ZKJ hb]
    exact Ziw
   ·exact hn.elim
  ·rename_i L t' xs k q hx
   cases hL:ZeK M L with
   | false=>rw [hL] at hn; exact hn.elim
   | true =>
    simp only [hL,ZjV hL,cond_true] at hn ⊢
    exact Ziw
  ·rename_i i v n k q hx
   cases hr:Zdy M i v with
   | none=>rw [hr] at hn; exact hn.elim
   | some r =>
    simp only [hr,Zx5 hr] at hn ⊢
    cases hL:Nat.beq n r.t.n with
    | false=>rw [hL] at hn; exact hn.elim
    | true =>
     simp only [hL,cond_true] at hn ⊢
     exact Ziw
  ·rename_i i v c n k o' m y q hx
   cases hr:Zc1 M i v c n k o' with
   | none=>rw [hr] at hn; exact hn.elim
   | some r =>
    simp only [hr,Zib hr] at hn ⊢
    cases hL:Nat.beq m r.t.n with
    | false=>rw [hL] at hn; exact hn.elim
    | true =>
     simp only [hL,cond_true] at hn ⊢
     exact Ziw
  ·exact hn.elim
 case build t parts=>split at hn <;> first | exact ZbF hn | exact hn.elim
 case nilCheck x =>
  split at hn
  ·exact ZbF hn
  ·rename_i L t' xs k q hx
   cases hL:ZeK M L with
   | false=>rw [hL] at hn; exact hn.elim
   | true=>simp only [ZjV hL,cond_true]; exact ZbF trivial
  ·rename_i i v n k q hx
   cases hr:ZkO M i v with
   | none=>rw [hr] at hn; exact hn.elim
   | some r=>simp only [ZqE hr,Option.isSome,cond_true]; exact ZbF trivial
  ·rename_i i v c n k o' m y q hx
   cases hr:Zc1 M i v c n k o' with
   | none=>rw [hr] at hn; exact hn.elim
   | some r=>simp only [Zib hr,Option.isSome,cond_true]; exact ZbF trivial
  ·exact ZbF hn
  ·exact hn.elim
 case binOp=>exact ZbF hn
 case unOp op t x=>cases op <;> simp only at hn ⊢ <;> first | exact hn.elim | (split at hn <;> first | exact ZbF hn | exact hn.elim)
 case convert s d x =>
  split at hn
  ·exact ZbF hn
  ·rename_i c hd hx
   split at hn
   ·rename_i e hs
    cases hu:ZMZ P e with
    | false=>rw [hu] at hn; exact hn.elim
    | true =>
     simp only [hu,cond_true] at hn ⊢
     cases hst:ZDn M c with
     | none=>rw [hst] at hn; exact hn.elim
     | some xs =>
      rw [hst] at hn
      simp only [ZJi (fun q hq=>ZqF hq) hst]
      exact ZbF hn
   ·exact hn.elim
  ·exact hn.elim
 case makeFunc fn first captured=>cases fn <;> simp only at hn ⊢ <;> first | exact hn.elim | (split at hn <;> first | exact ZbF hn | exact hn.elim)
 case slice t x lo hi mx =>
  cases mx with
  | some _=>exact hn.elim
  | none =>
   simp only at hn ⊢
   split at hn
   ·exact Ziw
   ·split at hn
    ·rename_i c hx
     cases hr:ZgT M c with
     | none=>rw [hr] at hn; exact hn.elim
     | some q =>
      simp only [hr,ZqF hr] at hn ⊢
      exact ZbF hn
    ·exact hn.elim
   ·exact hn.elim
 case fieldAddr s x n =>
  split at hn
  ·rename_i f hf
   cases hz:Nat.beq (Zcc P f.type) 0 with
   | true=>rw [hz] at hn; exact hn.elim
   | false =>
    rw [hz] at hn
    simp only [cond_false] at hn ⊢
    split at hn
    ·exact ZbF hn
    ·rename_i L t' xs k q hx
     cases hL:ZeK M L with
     | false=>rw [hL] at hn; exact hn.elim
     | true=>simp only [ZjV hL,cond_true]; exact ZbF trivial
    ·rename_i i v n k q hx
     cases hr:ZkO M i v with
     | none=>rw [hr] at hn; exact hn.elim
     | some r=>simp only [ZqE hr,Option.isSome,cond_true]; exact ZbF trivial
    ·rename_i i v c n k o' m y q hx
     cases hr:Zc1 M i v c n k o' with
     | none=>rw [hr] at hn; exact hn.elim
     | some r=>simp only [Zib hr,Option.isSome,cond_true]; exact ZbF trivial
    ·exact hn.elim
  ·exact hn.elim
 case indexAddr t x i =>
  split at hn
  ·rename_i e L t' xs k n hu hx hi
   cases hL:ZeK M L with
   | false=>rw [hL] at hn; exact hn.elim
   | true =>
    simp only [hL,ZjV hL,cond_true] at hn ⊢
    exact ZbF hn
  ·rename_i e i v k n hu hx hi
   cases hr:ZkO M i v with
   | none=>rw [hr] at hn; exact hn.elim
   | some r =>
    simp only [hr,ZqE hr] at hn ⊢
    exact ZbF hn
  ·rename_i e i v c n' k' o' k n hu hx hi
   cases hr:Zc1 M i v c n' k' o' with
   | none=>rw [hr] at hn; exact hn.elim
   | some r =>
    simp only [hr,Zib hr] at hn ⊢
    exact ZbF hn
  ·exact hn.elim
 case index t x i=>split at hn <;> first | exact ZbF hn | exact hn.elim
 case extract x n =>
  split at hn
  ·exact Ziw
  ·exact hn.elim
 case call c =>
  obtain ⟨cal,xs,ts⟩:=c
  cases cal <;> simp only at hn hc ⊢ <;> try exact hn.elim
  rename_i b
  cases b <;> simp only at hn hc ⊢ <;> try exact hn.elim
  case append=>cases hc
  case len =>
   split at hn
   ·split at hn
    ·exact ZbF hn
    ·exact ZbF hn
    ·rename_i e c _ hu hx
     cases hr:ZgT M c with
     | none=>rw [hr] at hn; exact hn.elim
     | some q =>
      simp only [hr,ZqF hr] at hn ⊢
      exact ZbF hn
    ·exact hn.elim
   ·exact hn.elim
  case min=>split at hn <;> first | exact ZbF hn | exact hn.elim
  case max=>split at hn <;> first | exact ZbF hn | exact hn.elim
 all_goals exact hn.elim
theorem ZqG (hc:clsO T o≤1):ZdD T tm M o=ZlJ T tm M o:=by
 unfold ZdD
 have:Nat.beq (clsO T o) 2=false:=by
  cases h:Nat.beq (clsO T o) 2 with
  | false=>rfl
  | true=>have:=Nat.eq_of_beq_eq_true h; omega
 rw [this]
 rfl
theorem Zs7 (hc:clsO T o=0):ZdD T tm M o=opA P tm M o:=by
 rw [ZqG (by omega)]
 unfold ZlJ
 have hc:=ZDF hc (Nat.zero_le 1)
 unfold ZM2 at hc
 cases ho:o.op <;> simp only [ho] at hc ⊢
 case call c =>
  obtain ⟨cal,xs,ts⟩:=c
  cases cal <;> first | rfl | skip
  all_goals try (cases hc; done)
  rename_i fn
  cases fn <;> first | (cases hc; done) | skip
  rename_i f
  exfalso
  have hc:(match findM f T.G with | some _=>2 | none=>1)=0:=hc
  split at hc <;> cases hc
theorem Zkw (N:Mem) (hc:clsO T o=0) (hn:(ZdD T tm M o).need):ZOU N M (ZdD T tm M o) (ZdD T tm (M ++ N) o):=by
 rw [Zs7 hc] at hn ⊢
 rw [Zs7 hc]
 exact ZKK N hc hn
theorem ZIR {f:FuncId} {args:List AV} (hn:(Zsw T M f args).need):∃ N,(Zsw T M f args).mem=M ++ N:=by
 unfold Zsw at hn ⊢
 cases hH:ZGw f T.H with
 | some h =>
  rw [hH] at hn
  simp only at hn ⊢
  split at hn
  ·exact Zry
  ·exact Zry
  ·exact hn.elim
 | none =>
  rw [hH] at hn
  simp only at hn ⊢
  cases hH2:ZsS f T.H2 with
  | some h =>
   rw [hH2] at hn
   simp only at hn ⊢
   split at hn
   ·exact Zry
   ·exact hn.elim
  | none =>
  rw [hH2] at hn
  simp only at hn ⊢
  cases hE:Zvj f T.Γ with
  | none=>rw [hE] at hn; exact hn.elim
  | some e =>
   rw [hE] at hn
   simp only at hn ⊢
   cases hd:Zkn M e.ins args with
   | none=>rw [hd] at hn; exact hn.elim
   | some x =>
    simp only
    cases hp:ZLP e.ins || args.any ZIB with
    | true=>exact ⟨e.new x,rfl⟩
    | false=>exact ⟨e.new x,rfl⟩
theorem ZqH:∀ {t:Ty} {l:List AC} {x:t.den} {r:List AC} {js:List Nat},t.flat=true→ZHl M t l=some (x,r,js)→js=[]
 | .int k,l,x,r,js,_,h=>by
  have h:Zxz k l=some (x,r,js):=h
  unfold Zxz at h
  exact ZmR
 | .bool,l,x,r,js,_,h=>by
  have h:Zqb l=some (x,r,js):=h
  unfold Zqb at h
  exact ZmR
 | .opq,l,x,r,js,_,h=>by
  have h:ZxB l=some (x,r,js):=h
  unfold ZxB at h
  exact ZmR
 | .str,l,x,r,js,_,h=>by
  have h:ZxA l=some (x,r,js):=h
  unfold ZxA at h
  exact ZmR
 | .list _,_,_,_,_,hf,_=>by cases hf
 | .prod a b,l,x,r,js,hf,h=>by
  have hf:(a.flat && b.flat)=true:=hf
  rw [Bool.and_eq_true] at hf
  unfold ZHl at h
  cases ha:ZHl M a l with
  | none=>rw [ha] at h; cases h
  | some q =>
   obtain ⟨y,l1,j1⟩:=q
   rw [ha] at h
   simp only at h
   cases hb:ZHl M b l1 with
   | none=>rw [hb] at h; cases h
   | some q =>
    obtain ⟨z,r2,j2⟩:=q
    rw [hb] at h
    injection h with h
    injection h with h1 h2
    injection h2 with h3 h4
    rw [← h4,ZqH hf.1 ha,ZqH hf.2 hb]
    rfl
theorem Zmt {t:Ty} (hf:t.flat=true):∀ {l:List (Nat × AV)} {k:Nat} {ys:List t.den} {js:List Nat},Zfs M t k l=some (ys,js)→js=[]
 | [],_,_,_,h=>by injection h with h; injection h with h1 h2; exact h2.symm
 | (i,x) :: l,k,ys,js,h=>by
  unfold Zfs at h
  cases hb:Nat.beq i k with
  | false=>rw [hb] at h; cases h
  | true =>
   rw [hb] at h
   simp only [cond_true] at h
   cases hv:ZLL M t x with
   | none=>rw [hv] at h; cases h
   | some q =>
    obtain ⟨y,j1⟩:=q
    rw [hv] at h
    simp only at h
    cases hp:Zfs M t (k + 1) l with
    | none=>rw [hp] at h; cases h
    | some q =>
     obtain ⟨zs,j2⟩:=q
     rw [hp] at h
     injection h with h
     injection h with h1 h2
     have e2:=Zmt hf hp
     have e1:j1=[]:=by
      unfold ZLL at hv
      split at hv
      ·split at hv
       ·rename_i hq
        injection hv with hv
        injection hv with _ h3
        rw [← h3]
        exact ZqH hf hq
       ·cases hv
      ·cases hv
     rw [← h2,e1,e2]
     rfl
theorem ZIS (hc:clsO T o≤1) (hn:(ZdD T tm M o).need):∃ N,(ZdD T tm M o).mem=M ++ N:=by
 by_cases h0:clsO T o=0
 ·exact ⟨[],by rw [List.append_nil]; exact (Zkw [] h0 hn).2.2.2⟩
 ·rw [ZqG hc] at hn ⊢
  unfold ZlJ at hn ⊢
  have hcq:=ZDF rfl hc
  rw [← hcq] at hc h0
  clear hcq
  unfold ZM2 at hc h0
  cases ho:o.op <;> simp only [ho] at hc h0 hn ⊢ <;> try exact (h0 trivial).elim
  case store=>omega
  case buildSlice t len parts =>
   have hfl:ZxP P t=true:=by
    cases hf:ZxP P t with
    | true=>rfl
    | false=>rw [hf] at hc; exact absurd hc (by decide)
   unfold ZxP at hfl
   unfold opA at hn ⊢
   simp only [ho] at hn ⊢
   split at hfl
   ·rename_i e hu
    simp only [hu] at hn ⊢
    split at hfl
    ·rename_i tt htt
     simp only [htt] at hn ⊢
     split at hn
     ·rename_i ys js hp
      have:=Zmt hfl hp
      subst this
      cases hcnd:(Zh7 P e tt.n && Nat.ble (len * tt.n) 16777216) && (Nat.beq len parts.size && ZbQ []) with
      | false=>rw [hcnd] at hn; exact hn.elim
      | true=>simp only [hcnd,cond_true]; exact ⟨_,rfl⟩
     ·rw [hfl] at hn
      exact hn.elim
    ·cases hfl
   ·cases hfl
  case makeSlice t l c =>
   unfold opA at hn ⊢
   simp only [ho] at hn ⊢
   split at hn
   ·split at hn
    ·rename_i tt z htt hz
     cases hcnd:z.cells.toList.all ZjI && Zh7 P _ tt.n with
     | false=>rw [hcnd] at hn; exact hn.elim
     | true =>
      simp only [hcnd,cond_true] at hn ⊢
      split at hn
      ·exact ⟨_,rfl⟩
      ·exact hn.elim
    ·exact hn.elim
   ·exact hn.elim
  case alloc e =>
   unfold opA at hn ⊢
   simp only [ho] at hn ⊢
   split at hn
   ·rename_i z hz
    cases hok:z.cells.toList.all ZjI with
    | false=>rw [hok] at hn; exact hn.elim
    | true=>exact ⟨_,rfl⟩
   ·exact hn.elim
  case box e x =>
   unfold opA at hn ⊢
   simp only [ho] at hn ⊢
   split at hn
   ·exact ⟨_,rfl⟩
   ·exact hn.elim
  case call c =>
   obtain ⟨cal,xs,ts⟩:=c
   cases cal <;> simp only at hc h0 hn ⊢
   case value fn =>
    cases fn <;> simp only at hc h0 <;> try (omega; done)
    rename_i f
    have hc:(match findM f T.G with | some _=>2 | none=>1)≤1:=hc
    cases hG:findM f T.G with
    | some e=>rw [hG] at hc; exact absurd (show 2≤1 from hc) (by decide)
    | none =>
     have e1:evalA tm (.func f)=.w (.c (.fn f [])):=rfl
     rw [e1] at hn ⊢
     simp only at hn ⊢
     unfold ZxO at hn ⊢
     rw [Zqu hG] at hn ⊢
     exact ZIR hn
   case builtin b=>cases b <;> simp only at hc h0 <;> first | omega | exact (h0 trivial).elim | exact (h0 rfl).elim
   all_goals omega
theorem Zx6 {tm' : List AV} (h:∀ x ∈ o.op.operands,evalA tm x=evalA tm' x):opA P tm M o=opA P tm' M o:=by
 unfold opA
 cases ho:o.op <;> simp only [ho,Op.operands] at h ⊢
 case makeFunc fn first captured =>
  have:captured.toList.map (evalA tm)=captured.toList.map (evalA tm'):=List.map_congr_left fun x hx=>h x (by simp at hx ⊢; exact .inr hx)
  cases fn <;> simp only [this]
 case unOp op t x =>
  have:=h x (by simp)
  cases op <;> simp only [this]
 case slice t x lo hi mx=>cases lo <;> cases hi <;> cases mx <;> simp_all
 case call c =>
  obtain ⟨cal,args,ts⟩:=c
  simp only [Call.operands] at h
  cases cal <;> simp only at h ⊢
  rename_i b
  have hm:args.toList.map (evalA tm)=args.toList.map (evalA tm'):=List.map_congr_left fun x hx=>h x (by simp at hx ⊢; exact hx)
  have hmem:∀ x ∈ args.toList,evalA tm x=evalA tm' x:=fun x hx=>h x (by simp at hx ⊢; exact hx)
  cases b <;> simp only [hm] <;> try rfl
  case append =>
   cases hts:ts.toList with
   | nil=>rfl
   | cons t l =>
    cases l with
    | nil=>rfl
    | cons t2 l =>
     cases l with
     | cons _ _=>rfl
     | nil =>
      cases hxs:args.toList with
      | nil=>rfl
      | cons x k =>
       cases k with
       | nil=>rfl
       | cons y k =>
        cases k with
        | cons _ _=>rfl
        | nil=>simp only [hmem x (by rw [hxs]; simp),hmem y (by rw [hxs]; simp)]
  case len =>
   cases hts:ts.toList with
   | nil=>rfl
   | cons t l =>
    cases l with
    | cons _ _=>rfl
    | nil =>
     cases hxs:args.toList with
     | nil=>rfl
     | cons x k =>
      cases k with
      | cons _ _=>rfl
      | nil=>simp only [hmem x (by rw [hxs]; simp)]
 case build t parts =>
  exact Zzu
 case buildSlice t len parts =>
  exact Zzu
 all_goals first | rfl | (simp_all; done)
theorem ZDG {tm' : List AV} (hc:clsO T o≤1) (h:∀ x ∈ o.op.operands,evalA tm x=evalA tm' x):ZdD T tm M o=ZdD T tm' M o:=by
 have h2:=Zx6 (P:=P) (M:=M) h
 rw [ZqG hc,ZqG hc]
 exact Zy8
theorem Zx7 {dst:Option Tmp} {v:AV} {x:Operand} (h:∀ d,dst=some d→x ≠ .tmp d):evalA (ZkP tm dst v) x=evalA tm x:=by
 cases dst with
 | none=>rfl
 | some d =>
  cases x with
  | tmp t =>
   have hne:d ≠ t:=fun e=>h d rfl (by rw [e])
   exact ZzT
  | const v=>rfl
  | global g=>rfl
  | func f=>rfl
theorem ZIT {dst:Option Tmp} {v:AV} (hc:clsO T o≤1) (h:∀ d,dst=some d→d ∉ o.looksAt ops):ZdD T (ZkP tm dst v) M o=ZdD T tm M o :=
 ZDG hc fun x hx=>Zx7 fun d hd hxd=>h d hd (by
  subst hxd
  exact List.mem_append_left _ (List.mem_filterMap.2 ⟨.tmp d,by simpa using hx,rfl⟩))
theorem ZqI {d:Nat} {v:AV} {t:Nat} (h:d ≠ t):ZjK (tm.set d v) M t=((ZjK tm M t).1.set d v,(ZjK tm M t).2):=by
 unfold ZjK
 rw [List.getElem?_set_ne h]
 cases tm[t]? with
 | none=>rfl
 | some x =>
  simp only
  cases liftV M x with
  | none=>rfl
  | some p=>simp only; rw [List.set_comm _ _ h]
theorem ZjW {d:Nat} {v:AV}:∀ (l:List MTy) (xs:List Operand) (tm:List AV) (M:Mem),(∀ x ∈ xs,x ≠ .tmp d)→Zbw l xs (tm.set d v) M=((Zbw l xs tm M).1.set d v,(Zbw l xs tm M).2)
 | [],_,_,_,_=>by unfold Zbw; rfl
 | y :: l,[],tm,M,_=>by
  have e:∀ tm,Zbw (y :: l) [] tm M=(tm,M):=fun tm=>by cases y <;> rfl
  rw [e,e]
 | y :: l,x :: xs,tm,M,h=>by
  have h' : ∀ x ∈ xs,x ≠ .tmp d:=fun x hx=>h x (List.mem_cons_of_mem _ hx)
  have go:∀ t,d ≠ t→(∀ tm,Zbw (y :: l) (x :: xs) tm M=Zbw l xs (ZjK tm M t).1 (ZjK tm M t).2)→Zbw (y :: l) (x :: xs) (tm.set d v) M=((Zbw (y :: l) (x :: xs) tm M).1.set d v,(Zbw (y :: l) (x :: xs) tm M).2):=fun t ht e=>by
   rw [e,e,ZqI ht]
   exact ZjW l xs _ _ h'
  have stay:(∀ tm,Zbw (y :: l) (x :: xs) tm M=Zbw l xs tm M)→Zbw (y :: l) (x :: xs) (tm.set d v) M=((Zbw (y :: l) (x :: xs) tm M).1.set d v,(Zbw (y :: l) (x :: xs) tm M).2):=fun e=>by
   rw [e,e]
   exact ZjW l xs _ _ h'
  have hx:=h x List.mem_cons_self
  cases y <;> cases x <;> first
   | exact stay fun tm=>rfl
   | exact go _ (fun q=>hx (by rw [q])) fun tm=>rfl
theorem ZKL {d:Nat} {v:AV} (h:∀ x ∈ o.op.operands,x ≠ .tmp d):ZIC T (tm.set d v) M o=((ZIC T tm M o).1.set d v,(ZIC T tm M o).2):=by
 unfold ZIC
 cases ho:o.op <;> simp only [ho,Op.operands] at h ⊢
 case store t p x =>
  cases p with
  | tmp p=>exact ZqI fun q=>h (.tmp p) (by simp) (by rw [q])
  | const v=>rfl
  | global g=>rfl
  | func f=>rfl
 case call c =>
  obtain ⟨cal,args,ts⟩:=c
  simp only [Call.operands] at h
  cases cal <;> simp only at h ⊢
  case builtin b =>
   cases b <;> simp only
   case append =>
    cases ha:args.toList with
    | nil=>rfl
    | cons x xs =>
     have hx:=h x (by simp; exact Array.mem_toList_iff.1 (by rw [ha]; exact List.mem_cons_self))
     cases x with
     | tmp t=>exact ZqI fun q=>hx (by rw [q])
     | const v=>rfl
     | global g=>rfl
     | func f=>rfl
  case value fn =>
   cases fn with
   | func f =>
    simp only
    cases findM f T.G with
    | none=>rfl
    | some e=>exact ZjW _ _ _ _ fun x hx=>h x (by simp at hx ⊢; exact .inr hx)
   | tmp t=>rfl
   | const v=>rfl
   | global g=>rfl
theorem ZqJ {tm' : List AV} (h:∀ x ∈ o.op.operands,evalA tm x=evalA tm' x):ZlJ T tm M o=ZlJ T tm' M o:=by
 have h2:=Zx6 (P:=P) (M:=M) h
 exact Zy8
theorem ZGF {tm' : List AV} (h:∀ x ∈ o.op.operands,evalA tm x=evalA tm' x):ZLR (P:=P) tm M o=ZLR (P:=P) tm' M o:=by
 unfold ZLR
 cases ho:o.op <;> simp only [ho,Op.operands] at h ⊢
 case slice t x lo hi mx =>
  cases mx with
  | some m=>rfl
  | none =>
   simp only
   rw [h x (by simp)]
   have e1:lo.map (evalA tm)=lo.map (evalA tm'):=by
    cases lo with
    | none=>rfl
    | some y=>exact congrArg some (h y (by simp))
   have e2:hi.map (evalA tm)=hi.map (evalA tm'):=by
    cases hi with
    | none=>rfl
    | some y=>exact congrArg some (h y (by simp))
   rw [e1,e2]
 case call c =>
  obtain ⟨cal,args,ts⟩:=c
  simp only [Call.operands] at h
  cases cal <;> simp only at h ⊢
  case builtin b =>
   cases b <;> simp only
   case clear =>
    cases hts:ts.toList with
    | nil=>rfl
    | cons t l =>
     cases l with
     | cons _ _=>rfl
     | nil =>
      cases ha:args.toList with
      | nil=>rfl
      | cons x xs =>
       cases xs with
       | cons _ _=>rfl
       | nil=>simp only; rw [h x (by simp; exact Array.mem_toList_iff.1 (by rw [ha]; exact List.mem_cons_self))]
 case makeMap t r=>cases r <;> rfl
 case lookup t m k c =>
  cases c with
  | true=>rfl
  | false=>show ZDw P M t (evalA tm m) (evalA tm k)=ZDw P M t (evalA tm' m) (evalA tm' k); rw [h m (by simp),h k (by simp)]
 case mapUpdate t m k v=>show ZMt P M t (evalA tm m) (evalA tm k) (evalA tm v)=ZMt P M t (evalA tm' m) (evalA tm' k) (evalA tm' v); rw [h m (by simp),h k (by simp),h v (by simp)]
theorem ZnX {dst:Option Tmp} {v:AV} (h:∀ d,dst=some d→d ∉ o.looksAt ops):ZdD T (ZkP tm dst v) M o=ZdD T tm M o:=by
 cases dst with
 | none=>rfl
 | some d =>
  have hd:∀ x ∈ o.op.operands,x ≠ .tmp d:=fun x hx hxd=>h d rfl (by
   subst hxd
   exact List.mem_append_left _ (List.mem_filterMap.2 ⟨.tmp d,by simpa using hx,rfl⟩))
  have ev:∀ tm:List AV,∀ x ∈ o.op.operands,evalA (tm.set d v) x=evalA tm x:=fun tm x hx =>
   Zx7 (dst:=some d) (v:=v) fun e he hxd=>hd x hx (by rw [hxd,Option.some.inj he])
  show ZdD T (tm.set d v) M o=_
  unfold ZdD
  cases Nat.beq (clsO T o) 2 with
  | false=>exact ZqJ (ev tm)
  | true =>
   cases isCut T o with
   | true=>exact ZGF (ev tm)
   | false =>
    show (let g:=ZIC T (tm.set d v) M o; let r:=ZlJ T g.1 g.2 o; (⟨r.need,r.val,ZoJ r.mem⟩:OR))=_
    rw [ZKL hd]
    simp only
    rw [ZqJ (ev _)]
    rfl
theorem ZIU {M' : Mem} (h:ZxR o=true):(ZdD T tm M o).need=(ZdD T tm M' o).need∧(ZdD T tm M o).val=(ZdD T tm M' o).val:=by
 unfold ZxR at h
 cases ho:o.op <;> rw [ho] at h <;> try cases h
 have e:∀ M,ZdD T tm M o=ZlJ T tm M o:=fun M=>ZqG (by unfold clsO isCut ZM2; rw [ho]; exact Nat.zero_le _)
 rw [e,e]
 unfold ZlJ
 rw [ho]
 show (opA P tm M o).need=(opA P tm M' o).need∧(opA P tm M o).val=(opA P tm M' o).val
 unfold opA
 rw [ho]
 exact ⟨rfl,rfl⟩
def Zoy (ops:Array Oper) (o:Oper) (tm:List AV):Option Bool :=
 match o.guard with
 | none=>some true
 | some (j,want)=>match (ops[j]?).bind (·.dst) with
  | some d=>match tm.getD d .any with
   | .w (.c (.bool g))=>some (g == want)
   | .tp _=>some false
   | _=>none
  | none=>none
theorem ZqK {dst:Option Tmp} {v:AV} (h:∀ d,dst=some d→d ∉ o.looksAt ops):Zoy ops o (ZkP tm dst v)=Zoy ops o tm:=by
 unfold Zoy
 cases hg:o.guard with
 | none=>rfl
 | some gw =>
  obtain ⟨j,want⟩:=gw
  simp only
  cases ht:(ops[j]?).bind (·.dst) with
  | none=>rfl
  | some t =>
   have:(ZkP tm dst v).getD t .any=tm.getD t .any:=by
    cases dst with
    | none=>rfl
    | some d =>
     have hne:d ≠ t:=fun e=>h d rfl (by subst e; simp [Oper.looksAt,hg,ht])
     exact ZzT
   simp only [this]
theorem Zx8 {x y:Option Tmp} (v u:AV) (h:∀ d,x=some d→y ≠ some d):ZkP (ZkP tm x v) y u=ZkP (ZkP tm y u) x v:=by
 cases x with
 | none=>rfl
 | some d =>
  cases y with
  | none=>rfl
  | some e =>
   have hne:d ≠ e:=fun q=>h d rfl (by rw [q])
   show (tm.set d v).set e u=(tm.set e u).set d v
   rw [List.set_comm _ _ hne]
def qA (T:Tab P) (ops:Array Oper) (i:Nat) (K:List AV→Mem→Prop) (tm:List AV) (M:Mem):Prop :=
 match ops[i]? with
 | none=>K tm M
 | some o=>match Zoy ops o tm with
  | some true=>(ZdD T tm M o).need∧K (ZkP tm o.dst (ZdD T tm M o).val) (ZdD T tm M o).mem
  | some false=>K (ZkP tm o.dst Zh9) M
  | none=>False
theorem Zvx {i:Nat} {K K' : List AV→Mem→Prop} (h:∀ a m,K a m→K' a m) (hh:qA T ops i K tm M):qA T ops i K' tm M:=by
 unfold qA at *
 split
 ·rename_i ho; simp only [ho] at hh; exact h _ _ hh
 ·rename_i o ho
  simp only [ho] at hh
  split
  ·rename_i hw; simp only [hw] at hh; exact ⟨hh.1,h _ _ hh.2⟩
  ·rename_i hw; simp only [hw] at hh; exact h _ _ hh
  ·rename_i hw; simp only [hw] at hh
def ZKM (T:Tab P) (ops:Array Oper) (Q:List AV→Mem→Prop):Nat→Array Bool→List AV→Mem→Prop
 | 0,listed,tm,M=>Region.ready .any ops listed=[]∧Q tm M
 | fuel + 1,listed,tm,M=>(Region.ready .any ops listed=[]→Q tm M)∧∀ i ∈ Region.ready .any ops listed,qA T ops i (ZKM T ops Q fuel (listed.setIfInBounds i true)) tm M
def Yld (T:Tab P) (ops:Array Oper) (o:Oper) (v:AV) (tm:List AV) (M:Mem):Prop :=
 (Zoy ops o tm=some true∧(ZdD T tm M o).need∧v=(ZdD T tm M o).val)∨(Zoy ops o tm=some false∧v=Zh9)
theorem Yld.qA {i:Nat} {v:AV} (hi:ops[i]?=some o) (hc:clsO T o=0) (hy:Yld T ops o v tm M) {K:List AV→Mem→Prop} (h:K (ZkP tm o.dst v) M):qA T ops i K tm M:=by
 unfold Go.Proofs.YtafhbjjcpncfnaaGreat.qA
 simp only [hi]
 rcases hy with ⟨hw,hv,rfl⟩ | ⟨hw,rfl⟩
 ·simp only [hw]; exact ⟨hv,by rw [(Zkw [] hc hv).2.2.2]; exact h⟩
 ·simp only [hw]; exact h
theorem ZNJ {j:Nat} {oi oj:Oper} {v:AV} (hj:ops[j]?=some oj) (hap:oi.apart ops oj=true) (hci:clsO T oi=0) (hcj:clsO T oj≤1∨ZxR oi=true) {K:List AV→Mem→Prop} (hy:Yld T ops oi v tm M) (h:qA T ops j K (ZkP tm oi.dst v) M) :
 qA T ops j (fun a' m'=>Yld T ops oi v a' m'∧K (ZkP a' oi.dst v) m') tm M:=by
 obtain ⟨h1,h2,h3⟩:=Oper.apart_spec hap
 have keep:∀ u N,Yld T ops oi v (ZkP tm oj.dst u) (M ++ N):=fun u N=>by
  unfold Yld
  rw [ZqK h3,ZIT (by omega) h3]
  rcases hy with ⟨hw,hv,rfl⟩ | hy
  ·obtain ⟨m1,m2,_,_⟩:=Zkw N hci hv
   exact .inl ⟨hw,m1,m2.symm⟩
  ·exact .inr hy
 have keepP:ZxR oi=true→∀ u M',Yld T ops oi v (ZkP tm oj.dst u) M':=fun hp u M'=>by
  unfold Yld
  rw [ZqK h3,ZnX h3]
  rcases hy with ⟨hw,hv,rfl⟩ | hy
  ·obtain ⟨m1,m2⟩:=ZIU (T:=T) (tm:=tm) (M:=M) (M':=M') hp
   exact .inl ⟨hw,by rw [← m1]; exact hv,m2⟩
  ·exact .inr hy
 unfold qA at *
 simp only [hj] at *
 rw [ZqK h1,ZnX h1] at h
 split
 ·rename_i hw
  simp only [hw] at h
  refine ⟨h.1,?_,by rw [← Zx8 _ _ h2]; exact h.2⟩
  rcases hcj with hcj | hp
  ·obtain ⟨N,hN⟩:=ZIS hcj h.1
   rw [hN]; exact keep _ N
  ·exact keepP hp _ _
 ·rename_i hw
  simp only [hw] at h
  exact ⟨by have:=keep Zh9 []; rwa [List.append_nil] at this,by rw [← Zx8 _ _ h2]; exact h⟩
 ·rename_i hw
  simp only [hw] at h
def ZqL (ops:Array Oper) (listed:Array Bool):Prop:=∀ (j:Nat) (o:Oper),ops[j]?=some o→listed.getD j false=true→∀ e ∈ o.after,Region.binds .any e=true→listed.getD e.on false=true
theorem ZGG {listed:Array Bool} (hcl:ZqL ops listed) {i:Nat}:∀ (n j:Nat),listed.getD j false=true→ZHm ops n i j=true→listed.getD i false=true
 | 0,_,_,h=>by cases h
 | n + 1,j,hj,h=>by
  unfold ZHm at h
  cases ho:ops[j]? with
  | none=>rw [ho] at h; cases h
  | some o =>
   rw [ho] at h
   obtain ⟨e,he,hb⟩:=Array.any_eq_true'.1 h
   rw [Bool.and_eq_true,Bool.or_eq_true] at hb
   have:=hcl j o ho hj e he hb.1
   exact ZzQ
theorem ZIV {listed:Array Bool} (hcl:ZqL ops listed) {i j:Nat} (hj:j ∈ Region.ready .any ops listed) {n:Nat} (h:ZHm ops n i j=true):listed.getD i false=true:=by
 cases n with
 | zero=>cases h
 | succ n =>
  obtain ⟨_,o,ho,hall⟩:=mem_ready.1 hj
  unfold ZHm at h
  rw [ho] at h
  obtain ⟨e,he,hb⟩:=Array.any_eq_true'.1 h
  rw [Bool.and_eq_true,Bool.or_eq_true] at hb
  have:=hall e he hb.1
  exact ZzQ
theorem Znv {listed:Array Bool} (hcl:ZqL ops listed) {i:Nat} (hi:i ∈ Region.ready .any ops listed):ZqL ops (listed.setIfInBounds i true):=fun j o ho hj e he hb=>by
 by_cases hji:i=j
 ·subst hji
  obtain ⟨_,o',ho',hall⟩:=mem_ready.1 hi
  obtain rfl:o'=o:=Option.some.inj (ho'.symm.trans ho)
  exact getD_set_true (hall e he hb)
 ·rw [getD_set_ne false hji] at hj
  exact getD_set_true (hcl j o ho hj e he hb)
theorem ZMy {listed:Array Bool} {i:Nat} (h:listed.getD i true=false):listed.getD i false=false:=by
 rcases Nat.lt_or_ge i listed.size with h' | h'
 ·simp [h'] at h ⊢; exact h
 ·simp [Array.getElem?_eq_none h']
theorem Zx9 {Q:List AV→Mem→Prop} {i:Nat} {oi:Oper} {v:AV} (hi:ops[i]?=some oi) (hci:clsO T oi=0) :
 ∀ (fuel:Nat) (listed:Array Bool) (tm:List AV) (M:Mem),ZqL ops listed →
   (∀ j oj,ops[j]?=some oj→j ≠ i→listed.getD j true=false→ZHm ops ops.size i j=false→oi.apart ops oj=true∧(clsO T oj≤1∨ZxR oi=true)) →
   i ∈ Region.ready .any ops listed→Yld T ops oi v tm M →
   ZKM T ops Q fuel (listed.setIfInBounds i true) (ZkP tm oi.dst v) M→ZKM T ops Q (fuel + 1) listed tm M:=by
 intro fuel
 induction fuel with
 | zero =>
  intro listed tm M _ _ hr hy H
  refine ⟨fun h=>(by rw [h] at hr; cases hr),fun j hj=>?_⟩
  by_cases hji:j=i
  ·subst hji; exact hy.qA hi hci H
  ·have:=ready_mono hj hji
   rw [H.1] at this
   cases this
 | succ fuel ih =>
  intro listed tm M hcl hfree hr hy H
  refine ⟨fun h=>(by rw [h] at hr; cases hr),fun j hj=>?_⟩
  by_cases hji:j=i
  ·subst hji; exact hy.qA hi hci H
  ·have h1:=H.2 j (ready_mono hj hji)
   obtain ⟨hjun,oj,hoj,hall⟩:=mem_ready.1 hj
   have hnd:ZHm ops ops.size i j=false:=by
    cases hd:ZHm ops ops.size i j with
    | false=>rfl
    | true =>
     exact ZAc
   obtain ⟨hap,hcj⟩:=hfree j oj hoj hji hjun hnd
   have h2:=ZNJ hoj hap hci hcj hy h1
   have hfree' : ∀ k ok,ops[k]?=some ok→k ≠ i→(listed.setIfInBounds j true).getD k true=false→ZHm ops ops.size i k=false→oi.apart ops ok=true∧(clsO T ok≤1∨ZxR oi=true):=fun k ok hk hki hun hno=>by
    refine hfree k ok hk hki ?_ hno
    by_cases hjk:j=k
    ·subst hjk; exact hjun
    ·rw [getD_set_ne true hjk] at hun; exact hun
   refine Zvx (fun a' m' h3=>ih (listed.setIfInBounds j true) a' m' (Znv hcl hj) hfree' (ready_mono hr (Ne.symm hji)) h3.1 ?_) h2
   rw [Array.setIfInBounds_comm _ _ hji]
   exact h3.2
theorem ZqM {Q:List AV→Mem→Prop}:∀ (n k:Nat) (listed:Array Bool) (tm:List AV) (M:Mem),ZKM T ops Q n listed tm M→n≤k→ZKM T ops Q k listed tm M
 | 0,0,_,_,_,h,_=>h
 | 0,k + 1,listed,tm,M,h,_=>⟨fun _=>h.2,fun i hi=>by rw [h.1] at hi; cases hi⟩
 | n + 1,0,_,_,_,_,hk=>by omega
 | n + 1,k + 1,listed,tm,M,h,hk=>⟨h.1,fun i hi=>Zvx (fun a m h=>ZqM n k _ a m h (by omega)) (h.2 i hi)⟩
theorem ZMz {i:Nat} {K:List AV→Mem→Prop} (h:ZMu T ops i tm M K):qA T ops i K tm M:=by
 unfold ZMu at h
 cases ho:ops[i]? with
 | none=>rw [ho] at h; exact h.elim
 | some o =>
  rw [ho] at h
  simp only at h
  unfold qA
  simp only [ho]
  have wnt:∀ j want d,o.guard=some (j,want)→(ops[j]?).bind (·.dst)=some d→Zoy ops o tm=(match tm.getD d .any with
   | .w (.c (.bool g))=>some (g == want)
   | .tp _=>some false
   | _=>none):=fun j want d hg hd=>by
   unfold Zoy
   rw [hg]
   simp only [hd]
  cases hgd:o.guard with
  | none =>
   rw [hgd] at h
   have:Zoy ops o tm=some true:=by unfold Zoy; rw [hgd]
   simp only [this]
   exact ⟨(ZgZ h).1,Zmn (ZgZ h).2⟩
  | some jw =>
   obtain ⟨j,want⟩:=jw
   rw [hgd] at h
   simp only at h
   cases hd:(ops[j]?).bind (·.dst) with
   | none=>rw [hd] at h; exact h.elim
   | some d =>
    rw [hd] at h
    simp only at h
    have wn:=wnt j want d hgd hd
    split at h
    ·rename_i g hq
     rw [hq] at wn
     have hs:tm.set d (.c (.bool g))=tm:=ZEM hq (by simp)
     cases want <;> cases g <;> simp only [hs] at h wn
     ·rw [wn]; exact ⟨(ZgZ h).1,Zmn (ZgZ h).2⟩
     ·rw [wn]; exact h
     ·rw [wn]; exact h
     ·rw [wn]; exact ⟨(ZgZ h).1,Zmn (ZgZ h).2⟩
    ·rename_i l' hq
     rw [hq] at wn
     rw [wn]
     exact h
    ·exact h.elim
theorem Zic {Q:List AV→Mem→Prop}:∀ (t:Tr) (listed:Array Bool) (tm:List AV) (M:Mem),ZqL ops listed→Zmo T ops t tm M Q →
 (okA T ops t false listed=true→ZKM T ops Q t.len listed tm M) ∧
  (okA T ops t true listed=true→∀ k,t.len≤k + 1→∀ j ∈ t.heads,j ∈ Region.ready .any ops listed∧qA T ops j (ZKM T ops Q k (listed.setIfInBounds j true)) tm M)
 | .nil,_,_,_,_,h=>⟨fun hB=>⟨by simpa [okA] using hB,h⟩,fun hB=>by simp [okA] at hB⟩
 | .alt t u,listed,tm,M,hcl,h=>by
  obtain ⟨ht,hu⟩:=h
  have it:=(Zic t listed tm M hcl ht).2
  have iu:=(Zic u listed tm M hcl hu).2
  have both:okA T ops t true listed=true→okA T ops u true listed=true→∀ k,(Tr.alt t u).len≤k + 1→∀ j ∈ (Tr.alt t u).heads,j ∈ Region.ready .any ops listed∧qA T ops j (ZKM T ops Q k (listed.setIfInBounds j true)) tm M:=fun h1 h2 k hk j hj=>by
   have hk' : max t.len u.len≤k + 1:=hk
   rcases List.mem_append.1 hj with hj | hj
   ·exact it h1 k (by omega) j hj
   ·exact iu h2 k (by omega) j hj
  refine ⟨fun hB=>?_,fun hB=>?_⟩
  ·unfold okA at hB
   simp only [Bool.false_or,Bool.and_eq_true] at hB
   have hall:∀ i ∈ Region.ready .any ops listed,i ∈ (Tr.alt t u).heads:=fun i hi=>by
    obtain ⟨k,hk,hb⟩:=List.any_eq_true.1 (List.all_eq_true.1 hB.1 i hi)
    rw [← Nat.eq_of_beq_eq_true hb]; exact hk
   cases hn:(Tr.alt t u).len with
   | zero =>
    exfalso
    cases hh:(Tr.alt t u).heads with
    | nil =>
     exact Zy9
    | cons j js =>
     have h0:∀ t:Tr,t.len=0→t.heads=[]:=fun t=>by
      induction t with
      | nil=>intro _; rfl
      | one i t _=>intro h; exact absurd h (Nat.succ_ne_zero _)
      | alt t u ih ih2 =>
       intro h
       have h' : max t.len u.len=0:=h
       simp [Tr.heads,ih (by omega),ih2 (by omega)]
     rw [h0 _ hn] at hh
     cases hh
   | succ k =>
    have hb:=both hB.2.1 hB.2.2 k (by omega)
    refine ⟨fun h0=>?_,fun j hj=>(hb j (hall j hj)).2⟩
    cases hh:(Tr.alt t u).heads with
    | nil =>
     exfalso
     exact Zy9
    | cons j js =>
     have:=(hb j (by rw [hh]; exact List.mem_cons_self)).1
     rw [h0] at this
     cases this
  ·unfold okA at hB
   simp only [Bool.true_or,Bool.true_and,Bool.and_eq_true] at hB
   exact both hB.1 hB.2
 | .one i l,listed,tm,M,hcl,h=>by
  have hq:qA T ops i (fun tm M=>Zmo T ops l tm M Q) tm M:=ZMz h
  have hrd:∀ b,okA T ops (.one i l) b listed=true→i ∈ Region.ready .any ops listed∧((b || ZKw T ops listed i)=true)∧okA T ops l false (listed.setIfInBounds i true)=true:=fun b hB=>by
   unfold okA at hB
   rw [Bool.and_eq_true,Bool.and_eq_true] at hB
   obtain ⟨hr,hf,hB'⟩:=hB
   obtain ⟨k,hk,hb⟩:=List.any_eq_true.1 hr
   obtain rfl:=Nat.eq_of_beq_eq_true hb; exact ⟨hk,hf,hB'⟩
  refine ⟨fun hB=>?_,fun hB k hk j hj=>?_⟩
  ·obtain ⟨hr,hf,hB'⟩:=hrd false hB
   rw [Bool.false_or] at hf
   have ih:=fun tm M h=>(Zic (Q:=Q) l (listed.setIfInBounds i true) tm M (Znv hcl hr) h).1 hB'
   cases ho:ops[i]? with
   | none =>
    obtain ⟨_,o,ho',_⟩:=mem_ready.1 hr
    rw [ho] at ho'
    cases ho'
   | some o =>
    have hfs:∀ j oj,ops[j]?=some oj→j ≠ i→listed.getD j true=false→ZHm ops ops.size i j=false→clsO T o=0∧o.apart ops oj=true∧(clsO T oj≤1∨ZxR o=true):=fun j oj hj hji hun hnd=>by
     unfold ZKw at hf
     rw [ho] at hf
     have h1:=List.all_eq_true.1 hf j (List.mem_range.2 (Array.getElem?_eq_some_iff.1 hj).1)
     have hb:Nat.beq j i=false:=by
      cases hb:Nat.beq j i with
      | false=>rfl
      | true=>exact absurd (Nat.eq_of_beq_eq_true hb) hji
     rw [hb,hun,hnd,hj] at h1
     simp only [Bool.false_or,Bool.or_false,Bool.and_eq_true,Bool.or_eq_true] at h1
     exact ⟨Nat.eq_of_beq_eq_true h1.1,h1.2.1,h1.2.2.imp Nat.le_of_ble_eq_true id⟩
    by_cases hc:clsO T o=0
    ·
     unfold qA at hq
     simp only [ho] at hq
     have hfree:=fun j oj hj hji hun hnd=>(hfs j oj hj hji hun hnd).2
     split at hq
     ·rename_i hw
      have hm:=(Zkw (T:=T) [] hc hq.1).2.2.2
      rw [hm] at hq
      exact Zx9 ho hc l.len listed tm M hcl hfree hr (.inl ⟨hw,hq.1,rfl⟩) (ih _ _ hq.2)
     ·rename_i hw
      exact Zx9 ho hc l.len listed tm M hcl hfree hr (.inr ⟨hw,rfl⟩) (ih _ _ hq)
     ·exact hq.elim
    ·
     refine ⟨fun h0=>(by rw [h0] at hr; cases hr),fun j hj=>?_⟩
     have hji:j=i:=by
      by_cases hji:j=i
      ·exact hji
      ·obtain ⟨hjun,oj,hoj,_⟩:=mem_ready.1 hj
       cases hd:ZHm ops ops.size i j with
       | false=>exact absurd (hfs j oj hoj hji hjun hd).1 hc
       | true =>
        exact ZAc
     subst hji
     exact Zvx (fun a m h=>ih a m h) hq
  ·obtain rfl:j=i:=by simpa [Tr.heads] using hj
   obtain ⟨hr,_,hB'⟩:=hrd true hB
   refine ⟨hr,Zvx (fun a m h=>ZqM _ _ _ _ _ ((Zic (Q:=Q) l (listed.setIfInBounds j true) a m (Znv hcl hr) h).1 hB') ?_) hq⟩
   have hk' : l.len + 1≤k + 1:=hk
   omega
theorem ZDH (n:Nat):ZqL ops (Array.replicate n false):=fun j o _ hj=>by
 rcases Nat.lt_or_ge j n with h | h
 ·simp [h] at hj
 ·simp [Nat.not_lt.2 h] at hj
theorem ZEN {k:Nat}:∀ (l:List Tr),(∀ t ∈ l,t.len≤k)→(ZOa l).len≤k
 | [],_=>Nat.zero_le _
 | [t],h=>h t List.mem_cons_self
 | t :: u :: l,h=>by
  have h1:=h t List.mem_cons_self
  have h2:=ZEN (u :: l) (fun t ht=>h t (List.mem_cons_of_mem _ ht))
  show max t.len (ZOa (u :: l)).len≤k
  omega
theorem Zs8:∀ (n:Nat) (listed:Array Bool),(Zh8 T ops n listed).len≤n
 | 0,_=>Nat.le_refl _
 | n + 1,listed=>by
  unfold Zh8
  split
  ·rename_i i _
   exact ZAa
  ·refine ZEN _ fun t ht=>?_
   obtain ⟨i,_,rfl⟩:=List.mem_map.1 ht
   exact ZAa
theorem ZoP {Q:List AV→Mem→Prop} {Q' : Exit→Act→World→Prop} {W0:World} {E0:Env} (hT:Zvm X W0 E0 T) (hQ:∀ tm M a W E,Q tm M→ZfV X tm M a W E→ZlO T W0 E0 W E M→Q' .normal a W):∀ (fuel:Nat) (listed:Array Bool) (tm:List AV) (M:Mem) (a:Act) (W:World) (E:Env),
 ZfV X tm M a W E→ZlO T W0 E0 W E M→ZKM T ops Q fuel listed tm M→wpAny P .any ops Q' fuel listed a W
 | 0,_,_,_,_,_,_,hr,hg,h=>⟨h.1,hQ _ _ _ _ _ h.2 hr hg⟩
 | fuel + 1,listed,tm,M,a,W,E,hr,hg,h=>by
  refine ⟨fun h0=>hQ _ _ _ _ _ (h.1 h0) hr hg,fun i hi=>?_⟩
  have hh:=h.2 i hi
  unfold qA at hh
  unfold wpOp
  cases ho:ops[i]? with
  | none=>rw [ho] at hh; exact ZoP hT hQ fuel _ _ _ _ _ _ hr hg hh
  | some o =>
   rw [ho] at hh
   simp only at hh ⊢
   have wnt:∀ b,Zoy ops o tm=some b→Region.wanted o (yielded ops a.tmps)=b:=fun b hb=>by
    unfold Zoy at hb
    unfold Region.wanted
    cases hgd:o.guard with
    | none=>rw [hgd] at hb; exact Option.some.inj hb
    | some jw =>
     obtain ⟨j,want⟩:=jw
     rw [hgd] at hb
     simp only at hb ⊢
     cases hd:(ops[j]?).bind (·.dst) with
     | none=>rw [hd] at hb; cases hb
     | some d =>
      rw [hd] at hb
      simp only at hb
      have hd' : (ops.toList[j]?).bind (·.dst)=some d:=by rw [Array.getElem?_toList]; exact hd
      split at hb
      ·rename_i g hq
       have:=Zs3 hd' hr.tmps hq
       rw [show yielded ops a.tmps j=some g from this,← Option.some.inj hb]
       cases g <;> cases want <;> rfl
      ·rename_i l hq
       have:=Zs4 hd' hr.tmps hq
       rw [show yielded ops a.tmps j=none from this,← Option.some.inj hb]
       rfl
      ·cases hb
   split at hh
   ·rename_i hw
    rw [if_pos (wnt _ hw)]
    refine .inl (ZqD hT hg.g hr.mem hr.tmps hh.1 _ _ fun u W' E' g m r hv=>?_)
    exact ZoP hT hQ fuel _ _ _ _ _ _ ⟨r,ZoO (hr.tmps.mono g m hr.mem.len) hv,by rw [Zkv]; exact hr.dfr⟩ (hg.step g m) hh.2
   ·rename_i hw
    rw [if_neg (by rw [wnt _ hw]; exact Bool.false_ne_true)]
    exact ZoP hT hQ fuel _ _ _ _ _ _ (hr.skip _) hg hh
   ·exact hh.elim
end
theorem ZIW:∀ {x y:List AC},leL x y→x=y
 | [],[],_=>rfl
 | [],_ :: _,h=>h.elim
 | _ :: _,[],h=>h.elim
 | _ :: _,_ :: _,h=>by rw [ZIL h.1,ZIW h.2]
theorem leV_eq {x y:AV} (h:leV x y):y=.any∨x=y:=by
 unfold leV at h
 split at h
 ·exact .inl rfl
 ·exact .inr (by rw [ZIL h])
 ·exact .inr (by rw [ZIW h])
 ·exact .inr h
theorem ZNK {x y:Blk} (h:leB x y):x=y:=by
 unfold leB at h
 split at h
 ·rw [ZIW h]
 ·obtain ⟨⟨e1,e2⟩,e3,e4⟩:=h; subst e3; rw [← e4,e1,e2]
 ·exact h
theorem ZIX:∀ {x y:Mem},leM x y→∃ z,x=y ++ z
 | x,[],_=>⟨x,rfl⟩
 | [],_ :: _,h=>h.elim
 | _ :: _,_ :: _,h=>by
  obtain ⟨z,e⟩:=ZIX h.2
  exact ⟨z,by rw [ZNK h.1,e]; rfl⟩
section
variable {P:Program} {X:List Nat} {W:World} {E:Env} {M:Mem} {a:Act} {tm:List AV} {o:Oper} {T:Tab P}
theorem ZMA {x y:AV} {v:Value} (h:leV x y) (hr:Zc5 X W E M x v):Zc5 X W E M y v:=by
 rcases leV_eq h with rfl | rfl
 ·trivial
 ·exact hr
theorem ZIY:∀ {x y:List AV} {vs:List Value},leT x y→Zcu X W E M x vs→Zcu X W E M y vs
 | [],[],_,_,hr=>hr
 | [],_ :: _,_,h,_=>h.elim
 | _ :: _,[],_,h,_=>h.elim
 | _ :: _,_ :: _,_,h,⟨v,r,e,h1,h2⟩=>⟨v,r,e,ZMA h.1 h1,ZIY h.2 h2⟩
theorem Zya {n i q:Nat} {v:Value} (hi:i < n) (h:Zjo E i v q):Zjo (E.take n) i v q:=by
 obtain ⟨e,h1,h2⟩:=h
 exact ⟨e,by rw [List.getElem?_take,if_pos hi]; exact h1,h2⟩
theorem Zs9 {n:Nat}:∀ {is:List Nat} {vs:List Value},is.all (Nat.blt · n)=true→Zem E is vs→Zem (E.take n) is vs
 | [],_,_,h=>h
 | _ :: _,_,ho,⟨v,r,e,h1,h2⟩=>by
  rw [List.all_cons,Bool.and_eq_true] at ho
  exact ⟨v,r,e,Zya (Nat.le_of_ble_eq_true ho.1) h1,Zs9 ho.2 h2⟩
theorem Zkx (n:Nat):∀ b ∈ foots (E.take n),b ∈ foots E:=fun b hb=>by
 obtain ⟨e,h1,h2⟩:=Zbb.1 hb
 exact Zbb.2 ⟨e,List.mem_of_mem_take h1,h2⟩
theorem Zmu {n i v:Nat} {Q:EB→Prop} (hi:i < n) (h:Zcz E M i v Q):Zcz (E.take n) (M.take n) i v Q:=by
 unfold Zcz at h ⊢
 exact ZAA
theorem ZqN {n:Nat} {Q:List Nat→Prop}:∀ {L:Lnd},(∀ i v c,L=.at i v c→i < n)→Zmd X W E M L Q→Zmd X W (E.take n) (M.take n) L Q
 | .no,_,⟨F,h1,h2⟩=>⟨F,h1,fun b hb=>⟨⟨fun hm=>(h2 b hb).1.1 (Zkx n b hm),(h2 b hb).1.2⟩,(h2 b hb).2⟩⟩
 | .at i v c,hi,h=>by
  have hi:=hi i v c rfl
  have h:Zen E M i v c Q:=h
  show Zen (E.take n) (M.take n) i v c Q
  unfold Zen at h ⊢
  exact ZAA
theorem Zyb {n i ver c n' k o:Nat} {u:Value} (hi:i < n) (h:Zng W E M i ver c n' k o u):Zng W (E.take n) (M.take n) i ver c n' k o u:=by
 obtain ⟨b,h1,h2⟩:=h
 exact ⟨b,Zmu hi h1,ZqN (X:=[]) (W:=W) (L:=.at i ver c) (fun _ _ _ e=>by injection e with e1 _ _; omega) h2⟩
theorem ZIZ {n:Nat}:∀ {c:AC} {v:Value},okC n c=true→Zb3 X W E M c v→Zb3 X W (E.take n) (M.take n) c v
 | .int _ _,_,_,h=>h
 | .bool _,_,_,h=>h
 | .str _,_,_,h=>h
 | .opq _,_,_,h=>h
 | .hs L t xs,v,ho,h=>⟨h.1,ZqN (fun i v c e=>by subst e; exact Nat.le_of_ble_eq_true ho) h.2⟩
 | .bp _ _,_,ho,h=>Zya (Nat.le_of_ble_eq_true ho) h
 | .ep L t xs k o,v,ho,h=>⟨h.1,ZqN (fun i v c e=>by subst e; exact Nat.le_of_ble_eq_true ho) h.2⟩
 | .row i ver,v,ho,h=>⟨h.1,Zmu (Nat.le_of_ble_eq_true ho) h.2⟩
 | .rp i ver n k o,v,ho,h=>⟨h.1,Zmu (Nat.le_of_ble_eq_true ho) h.2⟩
 | .sl i ver c n k o,v,ho,h=>⟨h.1,Zyb (Nat.le_of_ble_eq_true ho) h.2⟩
 | .sp i ver c n k o m x q,v,ho,⟨h0,b,l,cap,h1,h2⟩=>⟨h0,b,l,cap,Zyb (Nat.le_of_ble_eq_true ho) h1,h2⟩
 | .tl i ver n k,v,ho,h=>⟨h.1,Zmu (Nat.le_of_ble_eq_true ho) h.2⟩
 | .mp i,v,ho,⟨e,h1,h2⟩=>⟨e,by rw [List.getElem?_take,if_pos (show i < n from Nat.le_of_ble_eq_true ho)]; exact h1,h2⟩
 | .fn f caps,v,ho,⟨vs,e,h⟩=>⟨vs,e,Zs9 ho h⟩
 | .raw _,_,_,h=>h
 | .junk,_,_,h=>h
theorem ZDI {n:Nat}:∀ {l:List AC} {vs:List Value},l.all (okC n)=true→Zcp X W E M l vs→Zcp X W (E.take n) (M.take n) l vs
 | [],_,_,h=>h
 | _ :: _,_,ho,⟨v,r,e,h1,h2⟩=>by
  rw [List.all_cons,Bool.and_eq_true] at ho
  exact ⟨v,r,e,ZIZ ho.1 h1,ZDI ho.2 h2⟩
theorem ZI0 {n:Nat}:∀ {x:AW} {v:Value},okW n x=true→ZkN X W E M x v→ZkN X W (E.take n) (M.take n) x v
 | .c _,_,ho,h=>ZIZ ho h
 | .ag _,_,ho,⟨cs,e,h⟩=>⟨cs,e,ZDI ho h⟩
theorem ZEO {n:Nat}:∀ {l:List AW} {vs:List Value},l.all (okW n)=true→Zd2 X W E M l vs→Zd2 X W (E.take n) (M.take n) l vs
 | [],_,_,h=>h
 | _ :: _,_,ho,⟨v,r,e,h1,h2⟩=>by
  rw [List.all_cons,Bool.and_eq_true] at ho
  exact ⟨v,r,e,ZI0 ho.1 h1,ZEO ho.2 h2⟩
theorem ZMB {n:Nat}:∀ {x:AV} {v:Value},okV n x=true→Zc5 X W E M x v→Zc5 X W (E.take n) (M.take n) x v
 | .w _,_,ho,h=>ZI0 ho h
 | .tp _,_,ho,⟨vs,e,h⟩=>⟨vs,e,ZEO ho h⟩
 | .any,_,_,_=>trivial
theorem ZI1 {n:Nat}:∀ {l:List AV} {vs:List Value},l.all (okV n)=true→Zcu X W E M l vs→Zcu X W (E.take n) (M.take n) l vs
 | [],_,_,h=>h
 | _ :: _,_,ho,⟨v,r,e,h1,h2⟩=>by
  rw [List.all_cons,Bool.and_eq_true] at ho
  exact ⟨v,r,e,ZMB ho.1 h1,ZI1 ho.2 h2⟩
theorem ZKN {M N:Mem} (hM:RepM X W E (M ++ N)) (ho:M.all (okB M.length)=true):RepM X W (E.take M.length) M:=by
 have hl:=hM.len
 rw [List.length_append] at hl
 refine ⟨by simp; omega,?_,fun i b e hb he=>?_,fun b hb=>hM.lt b (Zkx _ b hb),fun b hb hf=>hM.xlt b hb (Zkx _ b hf),hM.xsz⟩
 ·have hn:=hM.nodup
  rw [← List.take_append_drop M.length E,ZbL,List.nodup_append] at hn
  exact hn.1
 ·have hi:i < M.length:=(List.getElem?_eq_some_iff.1 hb).1
  rw [List.getElem?_take,if_pos hi] at he
  have h:=hM.at_ i b e (by rw [List.getElem?_append_left hi]; exact hb) he
  have hob:=List.all_eq_true.1 ho b (List.mem_of_getElem? hb)
  cases b with
  | box l =>
   obtain ⟨q1,cs,T,q2,q3⟩:=h
   have:=ZDI (n:=M.length) hob q3
   rw [List.take_left] at this
   exact ⟨q1,cs,T,q2,this⟩
  | row t xs v c hh =>
   cases hh with
   | none=>exact h
   | some _=>cases hob
  | mp _=>exact h
  | dead=>exact h
theorem ZfV.le {n0:Nat} {inp:List Nat} {tm0:List AV} {M0:Mem} {h:List AV × Mem} (hr:ZfV X tm M a W E) (hle:leS n0 inp tm0 M0 tm M h):ZfV X h.1 h.2 a W (E.take h.2.length):=by
 obtain ⟨h1,h2,h3⟩:=hle
 rw [Bool.and_eq_true] at h3
 replace h3:=h3.1
 rw [Bool.and_eq_true] at h3
 obtain ⟨z,e⟩:=ZIX h2
 subst e
 refine ⟨ZKN hr.mem h3.2,?_,hr.dfr⟩
 have:=ZI1 h3.1 (ZIY h1 hr.tmps)
 rwa [List.take_left] at this
theorem ZI2 {W0:World} {E0:Env} {n:Nat} (hn:E0.length≤n) (hg:ZbU W0 E0 W E):ZbU W0 E0 W (E.take n):=⟨hg.os,hg.tape,hg.output,hg.size,hg.keep,fun b hb=>hg.new b (Zkx n b hb),fun i e h=>by
 obtain ⟨e',h1,h2⟩:=hg.blk i e h
 exact ⟨e',by rw [List.getElem?_take,if_pos (Nat.lt_of_lt_of_le (List.getElem?_eq_some_iff.1 h).1 hn)]; exact h1,h2⟩⟩
theorem ZqO (hM:RepM X W E M):ZbU W E W.drew E:=⟨rfl,rfl,rfl,Nat.le_refl _,fun _ _ _=>rfl,fun _ h=>.inl h,fun _ e h=>⟨e,h,rfl⟩⟩
theorem Zta (hM:RepM X W E M):Zbq W E M W.drew E M:=by
 have:=ZfH (W:=W) (W':=W.drew) (ZqO hM) hM (fun _ _=>rfl) [] []
 rwa [List.append_nil,List.append_nil] at this
theorem ZfV.drew (hr:ZfV X tm M a W E):ZfV X tm M a W.drew E:=by
 have g:=ZqO hr.mem
 have m:=Zta hr.mem
 refine ⟨⟨hr.mem.len,hr.mem.nodup,fun i b e hb he=>(hr.mem.at_ i b e hb he).keep g m hr.mem.len (fun _ _=>rfl),hr.mem.lt,hr.mem.xlt,hr.mem.xsz⟩,hr.tmps.mono g m hr.mem.len,hr.dfr⟩
theorem Zvy (i:Nat):(M.map (Zhq M))[i]?=(M[i]?).map (Zhq M):=List.getElem?_map
theorem ZNL {i v:Nat} {r:Zhx} (h:Zdy M i v=some r):(M.map (Zhq M))[i]?=some (.row r.t r.xs 0 0 none):=by
 rw [Zvy,ZdC h]
 rfl
theorem Zyc {i v c:Nat} (h:Zeo M i v c=true):∃ (t:Ty) (xs:List t.den),M[i]?=some (.row t xs v c none):=by
 unfold Zeo at h
 split at h
 ·rename_i t xs cv cc hM
  rw [Bool.and_eq_true] at h
  obtain rfl:=Nat.eq_of_beq_eq_true h.1
  obtain rfl:=Nat.eq_of_beq_eq_true h.2
  exact ⟨t,xs,hM⟩
 ·cases h
theorem Znw {i v:Nat} {Q:EB→Prop} {r:Zhx} (hr:Zdy M i v=some r) (h:Zcz E M i v Q):Zcz E (M.map (Zhq M)) i 0 Q:=by
 unfold Zcz at h ⊢
 rw [ZdC hr] at h
 rw [ZNL hr]
 exact ⟨Nat.le_refl _,fun _=>h.2 rfl⟩
theorem ZlP {i v c:Nat} {Q:List Nat→Prop} (hl:Zeo M i v c=true) (h:Zen E M i v c Q):Zen E (M.map (Zhq M)) i 0 0 Q:=by
 obtain ⟨t,xs,hM⟩:=Zyc hl
 unfold Zen at h ⊢
 rw [hM] at h
 rw [Zvy,hM]
 exact ⟨Nat.le_refl _,fun _=>⟨Nat.le_refl _,fun _=>(h.2 rfl).2 rfl⟩⟩
theorem Ztb {i ver c n k o:Nat} {u:Value} (hl:Zeo M i ver c=true) (h:Zng W E M i ver c n k o u):Zng W E (M.map (Zhq M)) i 0 0 n k o u:=by
 obtain ⟨b,h1,h2⟩:=h
 obtain ⟨t,xs,hM⟩:=Zyc hl
 refine ⟨b,Znw (r:=⟨t,xs,c⟩) ?_ h1,ZlP hl h2⟩
 unfold Zdy
 rw [hM]
 simp
theorem Zyd:∀ {c:AC} {v:Value},Zb3 X W E M c v→Zb3 X W E (M.map (Zhq M)) (ZID M c) v
 | .int _ _,_,h=>h
 | .bool _,_,h=>h
 | .str _,_,h=>h
 | .opq _,_,h=>h
 | .hs .no t xs,v,h=>h
 | .hs (.at i u c) t xs,v,h=>by
  show Zb3 X W E _ (bif Zeo M i u c then _ else _) v
  cases hl:Zeo M i u c with
  | false=>exact h.1
  | true=>exact ⟨h.1,ZlP hl h.2⟩
 | .bp _ _,_,h=>h
 | .ep .no t xs k o,v,h=>h
 | .ep (.at i u c) t xs k o,v,h=>by
  show Zb3 X W E _ (bif Zeo M i u c then _ else _) v
  cases hl:Zeo M i u c with
  | false=>exact h.1
  | true=>exact ⟨h.1,ZlP hl h.2⟩
 | .row i ver,v,h=>by
  show Zb3 X W E _ (bif (Zdy M i ver).isSome then _ else _) v
  cases hl:Zdy M i ver with
  | none=>exact h.1
  | some r=>exact ⟨h.1,Znw hl h.2⟩
 | .sl i ver c n k o,v,h=>by
  show Zb3 X W E _ (bif Zeo M i ver c then _ else _) v
  cases hl:Zeo M i ver c with
  | false=>exact h.1
  | true=>exact ⟨h.1,Ztb hl h.2⟩
 | .sp i ver c n k o m x q,v,⟨h0,b,l,cap,h1,h2⟩=>by
  show Zb3 X W E _ (bif Zeo M i ver c then _ else _) v
  cases hl:Zeo M i ver c with
  | false=>exact h0
  | true=>exact ⟨h0,b,l,cap,Ztb hl h1,h2⟩
 | .rp i ver n k o,v,h=>by
  show Zb3 X W E _ (bif (Zdy M i ver).isSome then _ else _) v
  cases hl:Zdy M i ver with
  | none=>exact h.1
  | some r=>exact ⟨h.1,Znw hl h.2⟩
 | .tl i ver n k,v,h=>h.1
 | .mp _,_,h=>h
 | .fn f caps,v,h=>h
 | .raw _,_,h=>h
 | .junk,_,h=>h
theorem ZqP:∀ {l:List AC} {vs:List Value},Zcp X W E M l vs→Zcp X W E (M.map (Zhq M)) (l.map (ZID M)) vs
 | [],_,h=>h
 | _ :: _,_,⟨v,r,e,h1,h2⟩=>⟨v,r,e,Zyd h1,ZqP h2⟩
theorem Zye:∀ {x:AW} {v:Value},ZkN X W E M x v→ZkN X W E (M.map (Zhq M)) (ZKz M x) v
 | .c _,_,h=>Zyd h
 | .ag _,_,⟨cs,e,h⟩=>⟨cs,e,ZqP h⟩
theorem Ztc:∀ {l:List AW} {vs:List Value},Zd2 X W E M l vs→Zd2 X W E (M.map (Zhq M)) (l.map (ZKz M)) vs
 | [],_,h=>h
 | _ :: _,_,⟨v,r,e,h1,h2⟩=>⟨v,r,e,Zye h1,Ztc h2⟩
theorem ZI3:∀ {x:AV} {v:Value},Zc5 X W E M x v→Zc5 X W E (M.map (Zhq M)) (Zvo M x) v
 | .w _,_,h=>Zye h
 | .tp _,_,⟨vs,e,h⟩=>⟨vs,e,Ztc h⟩
 | .any,_,_=>trivial
theorem Zyf:∀ {l:List AV} {vs:List Value},Zcu X W E M l vs→Zcu X W E (M.map (Zhq M)) (l.map (Zvo M)) vs
 | [],_,h=>h
 | _ :: _,_,⟨v,r,e,h1,h2⟩=>⟨v,r,e,ZI3 h1,Zyf h2⟩
theorem ZfV.back (hr:ZfV X tm M a W E) (hno:ZDx M=true):ZfV X (tm.map (Zvo M)) (M.map (Zhq M)) a W E:=by
 refine ⟨⟨by rw [List.length_map]; exact hr.mem.len,hr.mem.nodup,fun i b e hb he=>?_,hr.mem.lt,hr.mem.xlt,hr.mem.xsz⟩,Zyf hr.tmps,hr.dfr⟩
 rw [Zvy] at hb
 cases hM:M[i]? with
 | none=>rw [hM] at hb; cases hb
 | some b' =>
  rw [hM] at hb
  obtain rfl:Zhq M b'=b:=by simpa using hb
  have h:=hr.mem.at_ i b' e hM he
  cases b' with
  | box l =>
   obtain ⟨q1,cs,T,q2,q3⟩:=h
   exact ⟨q1,cs,T,q2,ZqP q3⟩
  | row t xs v c hh =>
   cases hh with
   | none=>exact h
   | some _=>have:=List.all_eq_true.1 hno _ (List.mem_of_getElem? hM); cases this
  | mp _=>exact h
  | dead=>exact h
theorem Zcu.put:∀ {l:List AV} {vs:List Value} (j:Nat) {x:AV},Zcu X W E M l vs→(∀ v,vs[j]?=some v→Zc5 X W E M x v)→Zcu X W E M (l.set j x) vs
 | [],_,_,_,h,_=>h
 | _ :: _,_,0,_,⟨v,r,e,h1,h2⟩,h=>⟨v,r,e,h v (by rw [e]; rfl),h2⟩
 | _ :: _,_,j + 1,_,⟨v,r,e,h1,h2⟩,h=>⟨v,r,e,h1,Zcu.put j h2 (fun u hu=>h u (by rw [e]; simpa using hu))⟩
theorem Zcp.put:∀ {l:List AC} {vs:List Value} (j:Nat) {x:AC},Zcp X W E M l vs→(∀ v,vs[j]?=some v→Zb3 X W E M x v)→Zcp X W E M (l.set j x) vs
 | [],_,_,_,h,_=>h
 | _ :: _,_,0,_,⟨v,r,e,h1,h2⟩,h=>⟨v,r,e,h v (by rw [e]; rfl),h2⟩
 | _ :: _,_,j + 1,_,⟨v,r,e,h1,h2⟩,h=>⟨v,r,e,h1,Zcp.put j h2 (fun u hu=>h u (by rw [e]; simpa using hu))⟩
theorem ZfV.nilrow (hr:ZfV X tm M a W E) (t:Ty):∃ E',ZbU W E W E'∧Zbq W E M W E' (M ++ [.row t [] 0 0 none])∧ZfV X tm (M ++ [.row t [] 0 0 none]) a W E'∧Zb3 X W E' (M ++ [.row t [] 0 0 none]) (.row M.length 0) (.slice none 0 0):=by
 obtain ⟨E',g,m,rm,rc⟩:=ZkE (W':=W) (js:=[]) (t:=t) (ys:=[]) (v:=.slice none 0 0) (T:=0) (cells:=[]) (own:=[]) (G:=[]) hr.mem rfl (by simp) ⟨rfl,rfl,rfl,Nat.le_refl _,fun _ _ _=>rfl⟩ (World.ownsRow_nil W 0 0 t.n) ⟨rfl,rfl⟩ rfl (.inl rfl)
 exact ⟨E',g,m,⟨rm,hr.tmps.mono g m hr.mem.len,hr.dfr⟩,rc⟩
theorem ZfV.boxput {b i:Nat} {l:List AC} {x:AC} {v:Value} (hr:ZfV X tm M a W E) (hb:M[b]?=some (.box l)) (hl:l[i]?=some (.raw v)) (hx:Zb3 X W E M x v):Zbq W E M W E (M.set b (.box (l.set i x)))∧ZfV X tm (M.set b (.box (l.set i x))) a W E:=by
 have hbl:=(List.getElem?_eq_some_iff.1 hb).1
 have m:Zbq W E M W E (M.set b (.box (l.set i x))):=fun j=>by
  exact Zz1
 have g:=ZbU.refl W E
 refine ⟨m,⟨by simp [hr.mem.len],hr.mem.nodup,fun j b' e hb' he=>?_,hr.mem.lt,hr.mem.xlt,hr.mem.xsz⟩,hr.tmps.mono g m hr.mem.len,hr.dfr⟩
 by_cases hj:b=j
 ·subst hj
  rw [List.getElem?_set_self hbl] at hb'
  obtain rfl:=Option.some.inj hb'
  obtain ⟨q1,cs,T,q2,q3⟩:=hr.mem.at_ _ _ e hb he
  refine ⟨q1,cs,T,q2,Zcp.mono g m hr.mem.len (Zcp.put i q3 (fun u hu=>?_))⟩
  obtain ⟨w,h1,h2⟩:=q3.get hl
  obtain rfl:w=u:=Option.some.inj (h1.symm.trans hu)
  rw [h2.1]
  exact hx
 ·exact Zz6
theorem ZKO (hr:ZfV X tm M a W E) (p:Pro):∃ E',ZbU W E W E'∧Zbq W E M W E' (ZOb tm M p).2∧ZfV X (ZOb tm M p).1 (ZOb tm M p).2 a W E':=by
 obtain ⟨b,i,t⟩:=p
 cases b with
 | none =>
  show ∃ E',ZbU W E W E'∧Zbq W E M W E' (bif Zmf (tm.getD i .any) then (tm.set i (AV.c (AC.row M.length 0)),M ++ [Blk.row t [] 0 0 none]) else (tm,M)).2∧ZfV X (bif Zmf (tm.getD i .any) then (tm.set i (AV.c (AC.row M.length 0)),M ++ [Blk.row t [] 0 0 none]) else (tm,M)).1 (bif Zmf (tm.getD i .any) then (tm.set i (AV.c (AC.row M.length 0)),M ++ [Blk.row t [] 0 0 none]) else (tm,M)).2 a W E'
  cases hn:Zmf (tm.getD i .any) with
  | false=>exact ⟨E,ZbU.refl W E,Zbq.refl W E M,hr⟩
  | true =>
   obtain ⟨E',g,m,r,rc⟩:=hr.nilrow t
   refine ⟨E',g,m,⟨r.mem,Zcu.put i r.tmps (fun u hu=>?_),r.dfr⟩⟩
   have e:=ZxC hn
   rw [List.getD_eq_getElem?_getD] at e
   cases hq:tm[i]? with
   | none=>rw [hq] at e; cases e
   | some x =>
    rw [hq] at e
    obtain rfl:x=_:=e
    obtain ⟨w,h1,h2⟩:=hr.tmps.get hq
    obtain rfl:w=u:=Option.some.inj (h1.symm.trans hu)
    have h2:Zb3 X W E M (.raw (.slice none 0 0)) w:=h2
    rw [h2.1]
    exact rc
 | some b =>
  show ∃ E',ZbU W E W E'∧Zbq W E M W E' (match M[b]? with | some (.box l)=>bif Zml (l.getD i .junk) then (tm,M.set b (Blk.box (l.set i (AC.row M.length 0))) ++ [Blk.row t [] 0 0 none]) else (tm,M) | _=>(tm,M)).2∧ZfV X (match M[b]? with | some (.box l)=>bif Zml (l.getD i .junk) then (tm,M.set b (Blk.box (l.set i (AC.row M.length 0))) ++ [Blk.row t [] 0 0 none]) else (tm,M) | _=>(tm,M)).1
   (match M[b]? with | some (.box l)=>bif Zml (l.getD i .junk) then (tm,M.set b (Blk.box (l.set i (AC.row M.length 0))) ++ [Blk.row t [] 0 0 none]) else (tm,M) | _=>(tm,M)).2 a W E'
  split
  ·rename_i l hb
   cases hn:Zml (l.getD i .junk) with
   | false=>exact ⟨E,ZbU.refl W E,Zbq.refl W E M,hr⟩
   | true =>
    obtain ⟨E',g,m,r,rc⟩:=hr.nilrow t
    have e:=Zx0 hn
    have hl:l[i]?=some (.raw (.slice none 0 0)):=by
     rw [List.getD_eq_getElem?_getD] at e
     cases hq:l[i]? with
     | none=>rw [hq] at e; cases e
     | some x=>rw [hq] at e; exact congrArg some e
    have hbl:=(List.getElem?_eq_some_iff.1 hb).1
    obtain ⟨m2,r2⟩:=r.boxput (b:=b) (i:=i) (l:=l) (by rw [List.getElem?_append_left hbl]; exact hb) hl rc
    rw [List.set_append_left _ _ hbl] at r2 m2
    exact ⟨E',g,m.trans m2,r2⟩
  ·exact ⟨E,ZbU.refl W E,Zbq.refl W E M,hr⟩
theorem ZEP:∀ (ps:List Pro) {tm:List AV} {M:Mem} {E:Env},ZfV X tm M a W E→∃ E',ZbU W E W E'∧Zbq W E M W E' (ZMv tm M ps).2∧ZfV X (ZMv tm M ps).1 (ZMv tm M ps).2 a W E'
 | [],_,M,E,hr=>⟨E,ZbU.refl W E,Zbq.refl W E M,hr⟩
 | p :: ps,tm,M,E,hr=>by
  obtain ⟨E1,g1,m1,r1⟩:=ZKO hr p
  obtain ⟨E2,g2,m2,r2⟩:=ZEP ps r1
  exact Zke
theorem ZfV.boxput2 {b i:Nat} {l:List AC} {x:AC} (hr:ZfV X tm M a W E) (hb:M[b]?=some (.box l)) (hx:∀ e cs T,E[b]?=some e→W.heap[e.blk]?=some (.cells cs T (0,0))→∀ u,cs.toList[i]?=some u→Zb3 X W E M x u):Zbq W E M W E (M.set b (.box (l.set i x)))∧ZfV X tm (M.set b (.box (l.set i x))) a W E:=by
 have hbl:=(List.getElem?_eq_some_iff.1 hb).1
 have m:Zbq W E M W E (M.set b (.box (l.set i x))):=fun j=>by
  exact Zz1
 have g:=ZbU.refl W E
 refine ⟨m,⟨by simp [hr.mem.len],hr.mem.nodup,fun j b' e hb' he=>?_,hr.mem.lt,hr.mem.xlt,hr.mem.xsz⟩,hr.tmps.mono g m hr.mem.len,hr.dfr⟩
 by_cases hj:b=j
 ·subst hj
  rw [List.getElem?_set_self hbl] at hb'
  obtain rfl:=Option.some.inj hb'
  obtain ⟨q1,cs,T,q2,q3⟩:=hr.mem.at_ _ _ e hb he
  exact ⟨q1,cs,T,q2,Zcp.mono g m hr.mem.len (Zcp.put i q3 (hx e cs T he q2))⟩
 ·exact Zz6
theorem ZGH (hr:ZfV X tm M a W E) (b c k:Nat):∃ E',ZbU W E W E'∧Zbq W E M W E' (ZEF M b c k)∧ZfV X tm (ZEF M b c k) a W E':=by
 have stay:∃ E',ZbU W E W E'∧Zbq W E M W E' M∧ZfV X tm M a W E':=⟨E,ZbU.refl W E,Zbq.refl W E M,hr⟩
 unfold ZEF
 split
 ·rename_i l hb
  split
  ·rename_i j v hc
   cases hjk:Nat.beq j k with
   | true=>exact stay
   | false =>
    simp only [cond_false]
    split
    ·rename_i t ys vj cj t' xs vk ck hj hk
     cases hv:Nat.beq v vj with
     | false=>exact stay
     | true =>
      simp only [cond_true]
      split
      ·rename_i ht
       subst ht
       obtain rfl:=Nat.eq_of_beq_eq_true hv
       have hne:j ≠ k:=fun e=>by rw [e,Nat.beq_refl] at hjk; cases hjk
       obtain ⟨E',g,m,rm,rc⟩:=Zs2 hr.mem hk hj hne
       have hbj:b ≠ j:=fun e=>by rw [e,hj] at hb; cases hb
       have hbk:b ≠ k:=fun e=>by rw [e,hk] at hb; cases hb
       have hb' : ((Zda M [j]).set k (.row t' ys (vk + 1) (ck + 1) none))[b]?=some (.box l):=by
        rw [List.getElem?_set_ne (Ne.symm hbk),Zb5 (fun q hq e=>hbj (by rw [← List.mem_singleton.1 hq]; exact e.symm))]
        exact hb
       obtain ⟨m2,r2⟩:=ZfV.boxput2 (X:=X) (tm:=tm) (a:=a) (i:=c) (x:=.row k (vk + 1)) ⟨rm,hr.tmps.mono g m hr.mem.len,hr.dfr⟩ hb' (fun e cs T he hcs u hu=>by
        have hble:b < E.length:=by rw [← hr.mem.len]; exact (List.getElem?_eq_some_iff.1 hb).1
        obtain ⟨e0,he0⟩:∃ e0,E[b]?=some e0:=⟨_,List.getElem?_eq_getElem hble⟩
        obtain ⟨e',h1,h2⟩:=g.blk b e0 he0
        obtain rfl:=Option.some.inj (h1.symm.trans he)
        obtain ⟨_,cs0,T0,q2,q3⟩:=hr.mem.at_ _ _ e0 hb he0
        rw [h2] at hcs
        have hcc:=Option.some.inj (q2.symm.trans hcs)
        injection hcc with hcc
        subst hcc
        obtain ⟨w,w1,w2⟩:=q3.get hc
        obtain rfl:=Option.some.inj (w1.symm.trans hu)
        have h3:=(w2:Zb3 X W E M (.row j v) w).2
        unfold Zcz at h3
        rw [hj] at h3
        obtain ⟨ej,p1,p2⟩:=h3.2 rfl
        rw [p2]
        exact rc ej p1)
       exact ⟨E',g,m.trans m2,r2⟩
      ·exact stay
    ·exact stay
  ·exact stay
 ·exact stay
theorem Znx (b:Nat):∀ (l:List AC) (c:Nat) {M:Mem} {E:Env},ZfV X tm M a W E→∃ E',ZbU W E W E'∧Zbq W E M W E' (ZxS M b c l)∧ZfV X tm (ZxS M b c l) a W E'
 | [],_,M,E,hr=>⟨E,ZbU.refl W E,Zbq.refl W E M,hr⟩
 | x :: l,c,M,E,hr=>by
  cases x with
  | row k _ =>
   obtain ⟨E1,g1,m1,r1⟩:=ZGH hr b c k
   obtain ⟨E2,g2,m2,r2⟩:=Znx b l (c + 1) r1
   exact Zke
  | _=>exact Znx b l (c + 1) hr
theorem Zny:∀ (b:Nat) (h:Mem) {M:Mem} {E:Env},ZfV X tm M a W E→∃ E',ZbU W E W E'∧Zbq W E M W E' (Zqi M b h)∧ZfV X tm (Zqi M b h) a W E'
 | _,[],M,E,hr=>⟨E,ZbU.refl W E,Zbq.refl W E M,hr⟩
 | b,x :: h,M,E,hr=>by
  cases x with
  | box l =>
   obtain ⟨E1,g1,m1,r1⟩:=Znx b l 0 hr
   obtain ⟨E2,g2,m2,r2⟩:=Zny (b + 1) h r1
   exact Zke
  | _=>exact Zny (b + 1) h hr
theorem ZEQ:∀ {l:List AV} {vs:List Value} (i:Nat) {x:AV},Zcu X W E M l vs→(∀ u,vs[i]?=some u→Zc5 X W E M x u)→Zcu X W E M (l.set i x) vs
 | [],_,_,_,h,_=>h
 | _ :: _,_,0,_,⟨v,r,e,_,h2⟩,hx=>⟨v,r,e,hx v (by rw [e]; rfl),h2⟩
 | _ :: _,_,i + 1,_,⟨v,r,e,h1,h2⟩,hx=>⟨v,r,e,h1,ZEQ i h2 (fun u hu=>hx u (by rw [e]; simpa using hu))⟩
theorem ZDJ {q:List AV × Mem} (hr:ZfV X q.1 q.2 a W E) (i k:Nat):∃ E',ZbU W E W E'∧Zbq W E q.2 W E' (Zqj q i k).2∧ZfV X (Zqj q i k).1 (Zqj q i k).2 a W E':=by
 have stay:∃ E',ZbU W E W E'∧Zbq W E q.2 W E' q.2∧ZfV X q.1 q.2 a W E':=⟨E,ZbU.refl W E,Zbq.refl W E q.2,hr⟩
 unfold Zqj
 split
 ·rename_i j v hc
  cases hjk:Nat.beq j k with
  | true=>exact stay
  | false =>
   simp only [cond_false]
   split
   ·rename_i t ys vj cj t' xs vk ck hj hk
    cases hv:Nat.beq v vj with
    | false=>exact stay
    | true =>
     simp only [cond_true]
     split
     ·rename_i ht
      subst ht
      obtain rfl:=Nat.eq_of_beq_eq_true hv
      have hne:j ≠ k:=fun e=>by rw [e,Nat.beq_refl] at hjk; cases hjk
      obtain ⟨E',g,m,rm,rc⟩:=Zs2 hr.mem hk hj hne
      refine ⟨E',g,m,rm,ZEQ i (hr.tmps.mono g m hr.mem.len) (fun u hu=>?_),hr.dfr⟩
      obtain ⟨w,w1,w2⟩:=hr.tmps.get hc
      obtain rfl:=Option.some.inj (w1.symm.trans hu)
      have h3:=(w2:Zb3 X W E q.2 (.row j v) w).2
      unfold Zcz at h3
      rw [hj] at h3
      obtain ⟨ej,p1,p2⟩:=h3.2 rfl
      rw [p2]
      exact rc ej p1
     ·exact stay
   ·exact stay
 ·exact stay
theorem Zgx:∀ (h:List AV) (i:Nat) {q:List AV × Mem} {E:Env},ZfV X q.1 q.2 a W E→∃ E',ZbU W E W E'∧Zbq W E q.2 W E' (Zqk q i h).2∧ZfV X (Zqk q i h).1 (Zqk q i h).2 a W E'
 | [],_,q,E,hr=>⟨E,ZbU.refl W E,Zbq.refl W E q.2,hr⟩
 | x :: h,i,q,E,hr=>by
  cases x with
  | w z =>
   cases z with
   | c c0 =>
    cases c0 with
    | row k ver =>
     obtain ⟨E1,g1,m1,r1⟩:=ZDJ hr i k
     obtain ⟨E2,g2,m2,r2⟩:=Zgx h (i + 1) r1
     exact Zke
    | _=>exact Zgx h (i + 1) hr
   | ag l=>exact Zgx h (i + 1) hr
  | tp l=>exact Zgx h (i + 1) hr
  | any=>exact Zgx h (i + 1) hr
theorem ZLV {n0:Nat} {inp:List Nat} {tm0 tm' : List AV} {M0 M' : Mem} {h:List AV × Mem} (hle:leS n0 inp tm0 M0 tm' M' h):ZDx M0=true:=by
 obtain ⟨_,_,h3⟩:=hle
 simp only [Bool.and_eq_true] at h3
 exact h3.2.2.2
theorem ZlO.head {W0:World} {E0:Env} {tm' : List AV} {h:List AV × Mem} (hT:Zvm X W0 E0 T) (hs:ZlO T W0 E0 W E M) (hle:leS T.n0 T.inp tm M tm' (M.map (Zhq M)) h):ZlO T W0 E0 W (E.take h.2.length) h.2:=by
 obtain ⟨h1,h2,h3⟩:=hle
 rw [Bool.and_eq_true,Bool.and_eq_true (a:=Nat.ble _ _)] at h3
 obtain ⟨_,hn,hi⟩:=h3
 rw [Bool.and_eq_true] at hi
 replace hi:=hi.1
 have hn:=Nat.le_of_ble_eq_true hn
 rw [hT.2.1] at hn
 refine ⟨ZI2 hn hs.g,fun i hii=>?_⟩
 obtain ⟨z,e⟩:=ZIX h2
 have hlt:i < h.2.length:=Nat.lt_of_lt_of_le (hT.2.2.1 i hii) hn
 have e1:h.2[i]?=(M.map (Zhq M))[i]?:=by rw [e,List.getElem?_append_left hlt]
 have hv:=List.all_eq_true.1 hi i hii
 rcases hs.kept i hii with hd | ⟨t,xs,v,c,hh,k1,k2⟩
 ·rw [hd] at hv; cases hv
 ·rw [k1] at hv
  cases hh with
  | some _=>cases hv
  | none =>
  obtain rfl:=Nat.eq_of_beq_eq_true (show Nat.beq v 0=true from hv)
  refine .inr ⟨t,xs,0,0,none,by rw [e1,Zvy,k1]; rfl,fun _ e0 he0=>?_⟩
  obtain ⟨e',q1,q2⟩:=k2 rfl e0 he0
  exact ⟨e',by rw [List.getElem?_take,if_pos hlt]; exact q1,q2⟩
theorem Zyg {L:Nat→List AV→Mem→Zbd} {W0:World} {E0:Env} (hT:Zvm X W0 E0 T):∀ (c:Code) (tm:List AV) (M:Mem) (a:Act) (W:World) (E:Env) (K:Exit→List AV→Mem→Prop) (Q:Exit→Act→World→Prop),
 (∀ e tm M a W E,K e tm M→ZfV X tm M a W E→ZlO T W0 E0 W E M→Q e a W)→Zia T L c tm M K→ZfV X tm M a W E→ZlO T W0 E0 W E M→c.wp P Q a W:=by
 intro c
 induction c with
 | skip=>intro tm M a W E K Q hS h hr hg; exact wp_skip (hS _ _ _ _ _ _ h hr hg)
 | label l=>intro tm M a W E K Q hS h hr hg; exact wp_label (hS _ _ _ _ _ _ h hr hg)
 | exit id=>intro tm M a W E K Q hS h hr hg; exact wp_exit (hS _ _ _ _ _ _ h hr hg)
 | ret=>intro tm M a W E K Q hS h hr hg; exact wp_ret (hS _ _ _ _ _ _ h hr hg)
 | region id ops draw =>
  intro tm M a W E K Q hS h0 hr hg
  have h:bif draw then (P.follows .mixedOrders=true∧okA T ops (Zh8 T ops ops.size (Array.replicate ops.size false)) false (Array.replicate ops.size false)=true)∧Zmo T ops (Zh8 T ops ops.size (Array.replicate ops.size false)) tm M (fun tm M=>K .normal tm M) else Znm T ops.toList ops.toList tm M (fun tm M=>K .normal tm M):=by
   have h0:bif ops.toList.any ZDy then False else (bif draw then (P.follows .mixedOrders=true∧okA T ops (Zh8 T ops ops.size (Array.replicate ops.size false)) false (Array.replicate ops.size false)=true)∧Zmo T ops (Zh8 T ops ops.size (Array.replicate ops.size false)) tm M (fun tm M=>K .normal tm M) else Znm T ops.toList ops.toList tm M (fun tm M=>K .normal tm M)):=h0
   cases hp:ops.toList.any ZDy with
   | true=>rw [hp] at h0; exact h0.elim
   | false=>rw [hp] at h0; exact h0
  cases draw with
  | false =>
   exact wp_region_list (Zfl hT (K:=fun tm M=>K .normal tm M) (fun tm M a W E hk hr hg=>hS _ _ _ _ _ _ hk hr hg) ops.toList tm M a W E h hr hg)
  | true =>
   obtain ⟨⟨hm,hB⟩,h⟩:=(h:(P.follows .mixedOrders=true∧okA T ops (Zh8 T ops ops.size (Array.replicate ops.size false)) false (Array.replicate ops.size false)=true)∧Zmo T ops (Zh8 T ops ops.size (Array.replicate ops.size false)) tm M (fun tm M=>K .normal tm M))
   have:=ZqM _ ops.size _ _ _ ((Zic (T:=T) (ops:=ops) _ _ tm M (ZDH ops.size) h).1 hB) (Zs8 _ _)
   exact wp_region_any hm (ZoP (T:=T) (X:=X) (W0:=W0) hT (fun tm M a W E hk hr hg=>hS _ _ _ _ _ _ hk hr hg) _ _ tm M a _ E hr.drew (hg.step (ZqO hr.mem) (Zta hr.mem)) this)
 | seq x y ihx ihy =>
  intro tm M a W E K Q hS h hr hg
  refine wp_seq (ihx tm M a W E _ _ (fun e tm M a W E hk hr hg=>?_) h hr hg)
  cases e with
  | normal=>exact ihy tm M a W E K Q hS hk hr hg
  | _=>exact hS _ _ _ _ _ _ hk hr hg
 | cond c x y ihx ihy =>
  intro tm M a W E K Q hS h hr hg
  unfold Zia at h
  cases c with
  | tmp t =>
   simp only at h
   split at h
   ·rename_i g hq
    have hl:=hr.lit hq
    have he:=ZaK hr.tmps (.tmp t)
    have he' : a.eval (.tmp t)=.bool g:=by
     have:evalA tm (.tmp t)=.w (.c (.bool g)):=hq
     rw [this] at he
     exact he
    cases g with
    | true=>exact wp_cond_true he' (ihx _ M a W E K Q hS h hl hg)
    | false=>exact wp_cond_false he' (ihy _ M a W E K Q hS h hl hg)
   ·exact h.elim
  | const v =>
   split at h
   ·rename_i t hq; cases hq
   ·rename_i g hq
    obtain rfl:v=.bool g:=by injection hq
    cases g with
    | true=>exact wp_cond_true rfl (ihx _ M a W E K Q hS h hr hg)
    | false=>exact wp_cond_false rfl (ihy _ M a W E K Q hS h hr hg)
   ·exact h.elim
  | global g=>exact h.elim
  | func f=>exact h.elim
 | block id x ih =>
  intro tm M a W E K Q hS h hr hg
  refine wp_block (ih tm M a W E _ _ (fun e tm M a W E hk hr hg=>?_) h hr hg)
  cases e with
  | exit id' =>
   show (if id'=id then Q .normal a W else Q (.exit id') a W)
   have hk:(bif Nat.beq id' id then K .normal tm M else K (.exit id') tm M):=hk
   by_cases hid:id'=id
   ·rw [if_pos hid]
    rw [hid,Nat.beq_refl] at hk
    exact hS _ _ _ _ _ _ hk hr hg
   ·rw [if_neg hid]
    have hb:Nat.beq id' id=false:=by
     cases hb:Nat.beq id' id with
     | false=>rfl
     | true=>exact absurd (Nat.eq_of_beq_eq_true hb) hid
    rw [hb] at hk
    exact hS _ _ _ _ _ _ hk hr hg
  | _=>exact hS _ _ _ _ _ _ hk hr hg
 | loop x ih =>
  intro tm M a W E K Q hS h hr hg
  unfold Zia at h
  obtain ⟨E1,g1,m1,r1⟩:=ZEP (T.pro (ZeP x)) hr
  obtain ⟨tm1,htm1⟩:∃ z,z=(ZMv tm M (T.pro (ZeP x))).1:=⟨_,rfl⟩
  obtain ⟨M1,hM1⟩:∃ z,z=(ZMv tm M (T.pro (ZeP x))).2:=⟨_,rfl⟩
  rw [← htm1,← hM1] at r1
  rw [← hM1] at m1
  have hs1:=hg.step g1 m1
  obtain ⟨A,hA⟩:∃ A,A=L (ZeP x) (tm1.map (Zvo M1)) (M1.map (Zhq M1)):=⟨_,rfl⟩
  have h:(∃ y,A.inv y∧leS T.n0 T.inp tm1 M1 (tm1.map (Zvo M1)) (M1.map (Zhq M1)) (A.hd y)) ∧
   ∀ y,A.inv y→Zia T L x (A.hd y).1 (A.hd y).2 (fun e tm' M'=>match e with | .normal=>∃ y',A.inv y'∧A.μ y' < A.μ y∧(let p:=Zqk (tm',Zqi M' 0 (A.hd y).2) 0 (A.hd y).1; leS T.n0 T.inp p.1 p.2 (p.1.map (Zvo p.2)) (p.2.map (Zhq p.2)) (A.hd y')) | e=>K e tm' M'):=by rw [hA,htm1,hM1]; exact h
  obtain ⟨⟨y0,hi0,hl0⟩,hround⟩:=h
  refine wp_loop_ghost (fun n a' w'=>∃ y E',A.inv y∧A.μ y=n∧ZfV X (A.hd y).1 (A.hd y).2 a' w' E'∧ZlO T W0 E0 w' E' (A.hd y).2) (A.μ y0) ⟨y0,_,hi0,rfl,(r1.back (ZLV hl0)).le hl0,hs1.head hT hl0⟩ ?_
  intro n a' w' hI
  obtain ⟨y,E',hiy,rfl,hry,hgy⟩:=hI
  refine ih _ _ a' w' E' _ _ (fun e tm' M' a' W' E' hk hr' hg'=>?_) (hround y hiy) hry hgy
  cases e with
  | normal =>
   obtain ⟨y',hi',hlt,hl'⟩:=hk
   obtain ⟨E2,g2,m2,r2⟩:=Zny 0 (A.hd y).2 hr'
   obtain ⟨E3,g3,m3,r3⟩:=Zgx (A.hd y).1 0 (q:=(tm',Zqi M' 0 (A.hd y).2)) r2
   exact ⟨_,hlt,y',_,hi',rfl,(r3.back (ZLV hl')).le hl',((hg'.step g2 m2).step g3 m3).head hT hl'⟩
  | _=>exact hS _ _ _ _ _ _ hk hr' hg'
 | _=>intro tm M a W E K Q hS h hr hg; exact h.elim
theorem ZKP {r:ResultVar} {x:AW} (hM:RepM X W E M) (ht:Zcu X W E M tm a.tmps.toList) (h:ZOc P tm M r=some x) :
 ∃ v,((match r with | .tmp t=>pure (a.tmps.getD t undef) | .cell p t=>do loadVar t (← asAddr (a.tmps.getD p undef)):Sem Value)).run P W=.ok v W∧ZkN X W E M x v:=by
 unfold ZOc at h
 split at h
 ·rename_i t
  have he:=ZaK ht (.tmp t)
  have he:Zc5 X W E M (tm.getD t .any) (a.tmps.getD t undef):=he
  split at h
  ·rename_i y hy
   obtain rfl:=Option.some.inj h
   rw [hy] at he
   exact ⟨_,rfl,he⟩
  ·cases h
 ·rename_i p t
  have he:=ZaK ht (.tmp p)
  have he:Zc5 X W E M (tm.getD p .any) (a.tmps.getD p undef):=he
  split at h
  ·rename_i i q hy
   rw [hy] at he
   obtain ⟨e,hei,hv⟩:=(he:Zjo E i _ q)
   split at h
   ·rename_i l hb
    split at h
    ·rename_i z hz
     obtain rfl:=Option.some.inj h
     obtain ⟨_,cs,T,hgc,hl⟩:=hM.at_ i _ e hb hei
     obtain ⟨u,h1,h2⟩:=ZEz (P:=P) hgc hl hz
     refine ⟨u,?_,h2⟩
     simp only [Sem.run_bind]
     rw [hv]
     simp only [asAddr,Sem.run_pure,Result.andThen_ok]
     exact h1
    ·cases h
   ·cases h
  ·cases h
theorem ZER (hM:RepM X W E M) (ht:Zcu X W E M tm a.tmps.toList):∀ {rs:List ResultVar} {l:List AW},ZLT P tm M rs=some l →
 ∃ vs,(rs.mapM (fun r=>(match r with | .tmp t=>pure (a.tmps.getD t undef) | .cell p t=>do loadVar t (← asAddr (a.tmps.getD p undef)):Sem Value))).run P W=.ok vs W∧Zd2 X W E M l vs
 | [],l,h=>by
  obtain rfl:=Option.some.inj h
  exact ⟨[],rfl,rfl⟩
 | r :: rs,l,h=>by
  unfold ZLT at h
  cases hx:ZOc P tm M r with
  | none=>rw [hx] at h; cases h
  | some x =>
   rw [hx] at h
   simp only at h
   cases hxs:ZLT P tm M rs with
   | none=>rw [hxs] at h; cases h
   | some xs =>
    rw [hxs] at h
    obtain rfl:=Option.some.inj h
    obtain ⟨v,h1,h2⟩:=ZKP hM ht hx
    obtain ⟨vs,h3,h4⟩:=ZER hM ht hxs
    refine ⟨v :: vs,?_,v,vs,rfl,h2,h4⟩
    rw [List.mapM_cons]
    simp only [Sem.run_bind,h1,Result.andThen_ok,h3,Sem.run_pure]
theorem Zd2.len:∀ {l:List AW} {vs:List Value},Zd2 X W E M l vs→vs.length=l.length
 | [],_,h=>by rw [show _=_ from h]; rfl
 | _ :: _,_,⟨v,r,e,_,h2⟩=>by rw [e,List.length_cons,Zd2.len h2,List.length_cons]
theorem ZDK {fn:Func} {l:List AW} (hM:RepM X W E M) (ht:Zcu X W E M tm a.tmps.toList) (h:ZLT P tm M fn.results.toList=some l):∃ v,(results fn a.tmps).run P W=.ok v W∧Zc5 X W E M (ZOd l) v:=by
 obtain ⟨vs,h1,h2⟩:=ZER hM ht h
 have hlen:=h2.len
 have hrun:(results fn a.tmps).run P W=.ok (if h:vs.toArray.size=1 then vs.toArray[0] else .tuple vs.toArray) W:=by
  unfold results
  rw [Array.mapM_eq_mapM_toList]
  simp only [Sem.run_bind,Sem.run_map]
  exact Eq.trans (congrArg (fun z:Result (List Value)=>(z.andThen (fun a w'=>Result.ok a.toArray w')).andThen (fun a w'=>Sem.run P (pure (if h:a.size=1 then a[0] else Value.tuple a)) w')) h1) rfl
 refine ⟨_,hrun,?_⟩
 cases l with
 | nil =>
  obtain rfl:vs=[]:=h2
  exact ⟨[],rfl,rfl⟩
 | cons x l =>
  cases l with
  | nil =>
   obtain ⟨v,r,rfl,q1,rfl⟩:=h2
   exact q1
  | cons y l =>
   have:¬ vs.toArray.size=1:=by simp at hlen ⊢; omega
   rw [dif_neg this]
   exact ⟨vs,rfl,h2⟩
theorem Zyh:∀ {args:List AW} {vs:List Value} (n:Nat),Zd2 X W E M args vs→Zcu X W E M (args.map .w ++ List.replicate n Zh9) (vs ++ List.replicate n undef)
 | [],vs,n,h=>by
  obtain rfl:vs=[]:=h
  induction n with
  | zero=>rfl
  | succ n ih=>exact ⟨_,_,rfl,Zs6,ih⟩
 | _ :: _,_,n,⟨v,r,e,h1,h2⟩=>by rw [e]; exact ⟨v,_,rfl,h1,Zyh n h2⟩
theorem ZOg (hsz:∀ b ∈ X,b < W.heap.size):RepM X W [] []:=⟨rfl,List.nodup_nil,fun i b e h=>by simp at h,fun b hb=>by simp [foots] at hb,fun b _=>by simp [foots],hsz⟩
theorem ZlQ {L:Nat→List AV→Mem→Zbd} {f:FuncId} {fn:Func} {args:List AW} {vs:List Value} {M0:Mem} {E0:Env} {Q:AV→Mem→Prop} (hf:P.funcs[f]?=some fn) (hT:Zvm X W E0 T) (h:ZGy T L fn args M0 Q) (hM0:RepM X W E0 M0) (hr:Zd2 X W E0 M0 args vs)
 (hinp:∀ i ∈ T.inp,∃ t xs v c,M0[i]?=some (.row t xs v c none)) :
 Calls P f vs.toArray W (fun e W'=>∃ v E' M' r,e=.returned v∧ZlO T W E0 W' E' M'∧RepM X W' E' M'∧Zc5 X W' E' M' r v∧Q r M'):=by
 unfold ZGy at h
 cases hb:fn.body with
 | none=>rw [hb] at h; exact h.elim
 | some c =>
  rw [hb] at h
  simp only at h
  refine calls_of_wp hf hb (Zyg (T:=T) (L:=L) (X:=X) (W0:=W) hT c (ZMw fn.ntmps args) M0 _ W E0 _ _ (fun e tm M a W' E' hk hr' hg=>?_) h ⟨hM0,?_,rfl⟩ ⟨ZbU.refl _ _,fun i hi=>?_⟩)
  ·have fin:∀ (hk:match ZLT P tm M fn.results.toList with | some l=>Q (ZOd l) M | none=>False),a.defers=[]∧∃ v,(results fn a.tmps).run P W'=.ok v W'∧∃ v' E' M' r,Ending.returned v=.returned v'∧ZlO T W E0 W' E' M'∧RepM X W' E' M'∧Zc5 X W' E' M' r v'∧Q r M':=fun hk=>by
    split at hk
    ·rename_i l hl
     obtain ⟨v,h1,h2⟩:=ZDK hr'.mem hr'.tmps hl
     exact ⟨hr'.dfr,v,h1,v,E',M,_,rfl,hg,hr'.mem,h2,hk⟩
    ·exact hk.elim
   cases e with
   | normal=>exact fin hk
   | ret=>exact fin hk
   | _=>exact hk.elim
  ·have:=Zyh (fn.ntmps - vs.length) hr
   have hl:=hr.len
   unfold ZMw
   rw [hl] at this
   have e1:(vs.toArray ++ Array.replicate (fn.ntmps - vs.toArray.size) undef).toList=vs ++ List.replicate (fn.ntmps - args.length) undef:=by simp [hl]
   show Zcu X W E0 M0 _ (vs.toArray ++ Array.replicate (fn.ntmps - vs.toArray.size) undef).toList
   rw [e1]
   exact this
  ·obtain ⟨t,xs,v,c,hi'⟩:=hinp i hi
   exact .inr ⟨t,xs,v,c,none,hi',fun _ e0 he0=>⟨e0,he0,rfl⟩⟩
end
def ZOh {α:Type} (p:α→Prop) (l:List α):Prop:=∀ x ∈ l,p x
def WfT:(t:Ty)→t.den→Prop
 | .int k,x=>(Lit.int k x).wf=true
 | .bool,_=>True
 | .str,s=>ByteArray.size s≤maxLen
 | .opq,_=>True
 | .prod a b,x=>WfT a x.1∧WfT b x.2
 | .list a,xs=>List.length (α:=a.den) xs≤maxLen∧ZOh (α:=a.den) (WfT a) xs
def WfC:AC→Prop
 | .int k x=>(Lit.int k x).wf=true
 | .str s=>s.size≤maxLen
 | .hs .no t xs=>xs.length≤maxLen∧ZOh (WfT t) xs
 | .ep .no t xs _ _=>ZOh (WfT t) xs
 | _=>True
def WfL:List AC→Prop
 | []=>True
 | c :: l=>WfC c∧WfL l
def WfW:AW→Prop
 | .c a=>WfC a
 | .ag l=>WfL l
def WfA:List AW→Prop
 | []=>True
 | x :: l=>WfW x∧WfA l
theorem ZI4 {α:Type} [GoRep α] {W:World} {p:α→Prop} (hp:∀ x cs F,rep W x cs F→p x) {b:Nat}:∀ {xs:List α} {off:Nat} {G:List Nat},ZcV W b off xs G→∀ x ∈ xs,p x
 | [],_,_,_,x,hx=>by simp at hx
 | y :: xs,_,_,⟨cs,G1,G2,h1,_,h3,_⟩,x,hx=>by
  rcases List.mem_cons.1 hx with rfl | hx
  ·exact hp _ _ _ h1
  ·exact ZI4 hp h3 x hx
theorem Ztd {W:World}:∀ (t:Ty) {x:t.den} {cs:List Value} {F:List Nat},rep W x cs F→WfT t x
 | .int _,_,_,_,h=>h.2.1
 | .bool,_,_,_,_=>trivial
 | .str,_,_,_,h=>h.2.1
 | .opq,_,_,_,_=>trivial
 | .prod a b,_,_,_,⟨_,_,_,_,h1,h2,_,_⟩=>⟨Ztd a h1,Ztd b h2⟩
 | .list a,xs,_,_,⟨A,c,_,h1,h2,h3⟩=>by
  refine ⟨Nat.le_trans h1 h2,fun x hx=>?_⟩
  rcases h3 with ⟨rfl,_⟩ | ⟨_,b,off,G,_,_,hr⟩
  ·simp at hx
  ·exact ZI4 (fun x cs F h=>Ztd a h) hr x hx
section
variable {P:Program} {X:List Nat} {W:World} {E:Env} {M:Mem}
theorem ZI5:∀ {c:AC} {v:Value},Zb3 X W E M c v→WfC c
 | .int _ _,_,h=>h.2
 | .bool _,_,_=>trivial
 | .str _,_,h=>h.2
 | .opq _,_,_=>trivial
 | .hs .no t xs,v,⟨_,F,h,_⟩=>Ztd (.list t) h
 | .hs (.at _ _ _) _ _,_,_=>trivial
 | .bp _ _,_,_=>trivial
 | .ep .no t xs k o,v,⟨_,F,⟨b,off,G,_,_,_,h⟩,_⟩=>fun x hx=>ZI4 (fun x cs F h=>Ztd t h) h x hx
 | .ep (.at _ _ _) _ _ _ _,_,_=>trivial
 | .row _ _,_,_=>trivial
 | .rp _ _ _ _ _,_,_=>trivial
 | .sl _ _ _ _ _ _,_,_=>trivial
 | .sp _ _ _ _ _ _ _ _ _,_,_=>trivial
 | .tl _ _ _ _,_,_=>trivial
 | .mp _,_,_=>trivial
 | .junk,_,_=>trivial
 | .fn _ _,_,_=>trivial
 | .raw _,_,_=>trivial
theorem ZDL:∀ {l:List AC} {vs:List Value},Zcp X W E M l vs→WfL l
 | [],_,_=>trivial
 | _ :: _,_,⟨_,_,_,h1,h2⟩=>⟨ZI5 h1,ZDL h2⟩
theorem Zmv:∀ {l:List AW} {vs:List Value},Zd2 X W E M l vs→WfA l
 | [],_,_=>trivial
 | .c _ :: _,_,⟨_,_,_,h1,h2⟩=>⟨ZI5 h1,Zmv h2⟩
 | .ag _ :: _,_,⟨_,_,_,⟨_,_,h1⟩,h2⟩=>⟨ZDL h1,Zmv h2⟩
theorem ZGI {r res:AV} {new:Mem} {us:List (Option Nat)} {v:Value} (hM:RepM X W E M) (hr:Zc5 X W E M r v) (hn:(ZnU M new r res).need) (hus:us=(ZnU M new r res).used) :
 Zc2 X X W E M new us 0 (ZnU M new r res).used∧Zc5 X W (pickE E us) new res v:=by
 have hV:ZnU M new r res=ZnT M new [] r res→Zc2 X X W E M new us 0 (ZnU M new r res).used∧Zc5 X W (pickE E us) new res v:=fun e=>by
  rw [e] at hn hus ⊢
  exact Zs1 (X':=X) (us:=us) (acc:=[]) hM (fun b hb=>.inl hb) (fun q u h=>by simp at h) hn hr (fun q u h=>by rw [hus]; simpa using h)
 cases r with
 | w a =>
  cases res with
  | w b =>
   have e:ZnU M new (.w a) (.w b)=Zd8 M new [] a b:=rfl
   rw [e] at hn hus ⊢
   exact Znr (X':=X) (us:=us) (acc:=[]) hM (fun b hb=>.inl hb) (fun q u h=>by simp at h) hn hr (fun q u h=>by rw [hus]; simpa using h)
  | tp l=>exact hV rfl
  | any=>exact hV rfl
 | tp l=>exact hV rfl
 | any=>exact hV rfl
theorem ZMC {W0:World} {res r:AV} {new:Mem} {v:Value} {T:Tab P} (hM:RepM X W E M) (hg:ZbU W0 [] W E) (hr:Zc5 X W E M r v) (h:ZOe res new r M):∃ E',ZbU W0 [] W E'∧RepM X W E' new∧Zc5 X W E' new res v:=by
 obtain ⟨hn,hc⟩:=h
 obtain ⟨us,hus⟩:∃ us,us=(ZnU M new r res).used:=⟨_,rfl⟩
 rw [← hus] at hc
 rw [Bool.and_eq_true] at hc
 have hlen:=Nat.eq_of_beq_eq_true hc.1
 obtain ⟨hu,hv⟩:=ZGI hM hr hn hus
 rw [← hus] at hu
 have hu:Zc2 X X W E M new us 0 us:=hu
 refine ⟨pickE E us,⟨hg.os,hg.tape,hg.output,hg.size,hg.keep,fun b hb=>hg.new b (Zex b hb),fun i e h=>by simp at h⟩,ZqA hM hu hlen hc.2 (fun b hb hf=>hM.xlt b hb (Zex b hf)) hM.xsz,hv⟩
theorem Zte:∀ {l:Mem} {k j:Nat} {c:List AC},l[j]?=some (.box c)→k + j ∈ ZxL k l
 | [],_,_,_,h=>by simp at h
 | .box _ :: l,k,0,c,h=>List.mem_cons_self
 | b :: l,k,j + 1,c,h=>by
  have:=Zte (l:=l) (k:=k + 1) (j:=j) (c:=c) (by simpa using h)
  rw [show k + 1 + j=k + (j + 1) by omega] at this
  cases b <;> first | exact List.mem_cons_of_mem _ this | exact this
 | .row _ _ _ _ none :: l,k,0,c,h=>by cases h
 | .mp _ :: l,k,0,c,h=>by cases h
 | .dead :: l,k,0,c,h=>by cases h
theorem Zyi {us:List (Option Nat)} {l:List Nat} (h:ZNz us l=true) {j:Nat} (hj:j ∈ l):us[j]?=some (some j):=by
 have h1:=List.all_eq_true.1 h j hj
 unfold ZIw at h1
 split at h1
 ·rename_i i hi
  rw [hi,Nat.eq_of_beq_eq_true h1]
 ·cases h1
theorem Zyj {X' : List Nat} {new:Mem} {us:List (Option Nat)} (hM:RepM X W E M) (hX:∀ b ∈ X',b ∈ X∨b ∈ foots E):∀ {ps:List (AW × AW)} {acc:List (Option Nat)},(∀ (q:Nat) (u:Option Nat),acc[q]?=some u→us[q]?=some u)→(ZlI M new acc ps).need →
 (∀ (q:Nat) (u:Option Nat),(ZlI M new acc ps).used[q]?=some u→us[acc.length + q]?=some u)→(∀ p ∈ ps,∃ v,ZkN X W E M p.1 v)→Zc2 X X' W E M new us acc.length (ZlI M new acc ps).used
 | [],_,_,_,_,_=>trivial
 | p :: ps,acc,hacc,⟨h1,h2⟩,hus,hv=>by
  have hus:∀ (q:Nat) (u:Option Nat),((Zd8 M new acc p.1 p.2).used ++ (ZlI M new (acc ++ (Zd8 M new acc p.1 p.2).used) ps).used)[q]?=some u→us[acc.length + q]?=some u:=hus
  have hu1:∀ (q:Nat) (u:Option Nat),(Zd8 M new acc p.1 p.2).used[q]?=some u→us[acc.length + q]?=some u:=fun q u hq=>hus q u (by rw [List.getElem?_append_left (List.getElem?_eq_some_iff.1 hq).1]; exact hq)
  have hacc2:∀ (q:Nat) (u:Option Nat),(acc ++ (Zd8 M new acc p.1 p.2).used)[q]?=some u→us[q]?=some u:=fun q u hq=>by
   exact Zkd
  obtain ⟨v,hv1⟩:=hv p List.mem_cons_self
  obtain ⟨q1,_⟩:=Znr hM hX hacc h1 hv1 hu1
  have p1:=Zyj hM hX hacc2 h2 (fun q u hq=>by
   have:=hus ((Zd8 M new acc p.1 p.2).used.length + q) u (by rw [List.getElem?_append_right (by omega),Nat.add_sub_cancel_left]; exact hq)
   rwa [List.length_append,Nat.add_assoc]) (fun p hp=>hv p (List.mem_cons_of_mem _ hp))
  rw [List.length_append] at p1
  exact q1.app p1
theorem pairs_name:∀ {ins:List MTy} {k:Nat} {p:AW × AW},p ∈ Zox k ins→(∃ j,p.1=.c (.bp j 0)∧j < k + (ins.map MTy.nb).sum)∨(∃ j ∈ inpM k ins,p.1=.c (.row j 0))∨p.1=.c (.raw (.slice none 0 0))
 | [],_,_,h=>by simp [Zox] at h
 | y :: l,k,p,h=>by
  have seq_lt:∀ (n k j:Nat),j ∈ seqN k n→j < k + n:=by
   intro n
   induction n with
   | zero=>intro k j h; simp [seqN] at h
   | succ n ih =>
    intro k j h
    rcases List.mem_cons.1 h with rfl | h
    ·omega
    ·have:=ih (k + 1) j h; omega
  have up:∀ {n:Nat} {inp:List Nat},n=y.nb→inpM k (y :: l)=inp ++ inpM (k + n) l→p ∈ Zox (k + n) l→(∃ j,p.1=.c (.bp j 0)∧j < k + ((y :: l).map MTy.nb).sum)∨(∃ j ∈ inpM k (y :: l),p.1=.c (.row j 0))∨p.1=.c (.raw (.slice none 0 0)):=fun {n inp} hn hi hp=>by
   rcases pairs_name hp with ⟨j,h1,h2⟩ | ⟨j,h1,h2⟩ | h
   ·exact .inl ⟨j,h1,by rw [List.map_cons,List.sum_cons,← hn]; omega⟩
   ·exact .inr (.inl ⟨j,by rw [hi]; exact List.mem_append_right _ h1,h2⟩)
   ·exact .inr (.inr h)
  cases y with
  | a y=>exact up (n:=0) (inp:=[]) rfl rfl h
  | m t =>
   exact ZzD
  | e t =>
   rcases List.mem_cons.1 h with rfl | h
   ·exact .inr (.inl ⟨k,List.mem_cons_self,rfl⟩)
   ·exact up (inp:=[k]) rfl rfl h
  | q g t =>
   rcases List.mem_append.1 h with h | h
   ·obtain ⟨j,hj,rfl⟩:=List.mem_map.1 h
    exact .inr (.inl ⟨j,List.mem_append_left _ hj,rfl⟩)
   ·exact up (inp:=seqN k t.nl) rfl rfl h
  | g g t =>
   rcases List.mem_append.1 h with h | h
   ·obtain ⟨j,hj,rfl⟩:=List.mem_map.1 h
    exact .inr (.inr rfl)
   ·exact up (inp:=[]) rfl rfl h
  | b t =>
   exact ZzD
  | f g c =>
   rcases List.mem_append.1 h with h | h
   ·obtain ⟨j,hj,rfl⟩:=List.mem_map.1 h
    refine .inl ⟨j,rfl,?_⟩
    have:=seq_lt _ _ _ hj
    rw [List.map_cons,List.sum_cons]
    show j < k + (c.length + _)
    omega
   ·exact up (inp:=[]) rfl rfl h
theorem Zvz:∀ {l:List ZNw} {x:ZMp l},(ZN4 l x).length=l.length
 | [],_=>rfl
 | .b t :: l,x=>congrArg (· + 1) (Zvz (l:=l) (x:=x.2))
 | .ptr j :: l,x=>congrArg (· + 1) (Zvz (l:=l) (x:=(x:ZMp l)))
theorem Zid:∀ {t:Ty} {x:t.den},(ZjO t x).length=t.nl
 | .int _,_=>rfl
 | .bool,_=>rfl
 | .str,_=>rfl
 | .opq,_=>rfl
 | .prod a b,x=>(List.length_append).trans (congr (congrArg Nat.add (Zid (t:=a))) (Zid (t:=b)))
 | .list _,_=>rfl
theorem Zmw {k:Nat}:∀ {y:MTy} {x:y.D},(preM1 k y x).length=y.nb
 | .a _,_=>rfl
 | .m t,x=>congrArg (· + 1) (Zid (t:=t))
 | .e _,_=>rfl
 | .q _ t,x=>Zid (t:=t)
 | .g _ t,x=>Zid (t:=t)
 | .b _,_=>rfl
 | .f _ l,x=>Zvz (l:=l)
theorem ZES:∀ {ins:List MTy} {k:Nat} {x:MD ins},(Zh3 k ins x).length=(ins.map MTy.nb).sum
 | [],_,_=>rfl
 | y :: l,k,x=>by
  show (preM1 k y x.1 ++ Zh3 (k + y.nb) l x.2).length=_
  rw [List.length_append,Zmw,ZES,List.map_cons,List.sum_cons]
theorem Znz:∀ {t:Ty} {x:t.den} {b:Blk},b ∈ ZjO t x→∃ (t' : Ty) (xs:List t'.den),b=.row t' xs 0 0 none
 | .int _,_,_,h=>by simp [ZjO] at h
 | .bool,_,_,h=>by simp [ZjO] at h
 | .str,_,_,h=>by simp [ZjO] at h
 | .opq,_,_,h=>by simp [ZjO] at h
 | .prod a b,x,_,h=>(List.mem_append.1 h).elim (Znz (t:=a)) (Znz (t:=b))
 | .list a,xs,_,h=>⟨a,xs,List.mem_singleton.1 h⟩
theorem ZET:∀ {n k j:Nat},j ∈ seqN k n→k≤j∧j < k + n
 | 0,_,_,h=>by simp [seqN] at h
 | n + 1,k,j,h=>by
  rcases List.mem_cons.1 h with rfl | h
  ·omega
  ·have:=ZET h; omega
theorem ZvA:∀ {ins:List MTy} {k:Nat} {x:MD ins} {i:Nat},i ∈ inpM k ins→k≤i∧∃ (t:Ty) (xs:List t.den) (v c:Nat),(Zh3 k ins x)[i - k]?=some (.row t xs v c none)
 | [],_,_,_,h=>by simp [inpM] at h
 | y :: l,k,x,i,h=>by
  have up:i ∈ inpM (k + y.nb) l→k≤i∧∃ (t:Ty) (xs:List t.den) (v c:Nat),(Zh3 k (y :: l) x)[i - k]?=some (.row t xs v c none):=fun h=>by
   obtain ⟨h1,t,xs,v,c,h2⟩:=ZvA (x:=x.2) h
   refine ⟨by omega,t,xs,v,c,?_⟩
   show (preM1 k y x.1 ++ Zh3 (k + y.nb) l x.2)[i - k]?=_
   rw [List.getElem?_append_right (by rw [Zmw]; omega),Zmw,← h2]
   congr 1
   omega
  have here:i ∈ seqN k y.nb→(∀ b ∈ preM1 k y x.1,∃ (t' : Ty) (xs:List t'.den),b=.row t' xs 0 0 none)→k≤i∧∃ (t:Ty) (xs:List t.den) (v c:Nat),(Zh3 k (y :: l) x)[i - k]?=some (.row t xs v c none):=fun h hb=>by
   obtain ⟨h1,h2⟩:=ZET h
   refine ⟨h1,?_⟩
   have hl:i - k < (preM1 k y x.1).length:=by rw [Zmw]; omega
   obtain ⟨t,xs,e⟩:=hb _ (List.getElem_mem hl)
   refine ⟨t,xs,0,0,?_⟩
   show (preM1 k y x.1 ++ Zh3 (k + y.nb) l x.2)[i - k]?=_
   rw [List.getElem?_append_left hl,List.getElem?_eq_getElem hl,e]
  cases y with
  | e t =>
   rcases List.mem_cons.1 h with h | h
   ·exact here (by rw [h]; exact List.mem_cons_self) (fun b hb=>⟨t,_,List.mem_singleton.1 hb⟩)
   ·exact up h
  | q g t =>
   rcases List.mem_append.1 h with h | h
   ·exact here h (fun b hb=>Znz (t:=t) hb)
   ·exact up h
  | a _=>exact up h
  | m _=>exact up h
  | g _ _=>exact up h
  | b _=>exact up h
  | f _ _=>exact up h
def WfB:Blk→Prop
 | .row t xs _ _ none=>WfT (.list t) xs
 | .box l=>WfL l
 | _=>True
def WfM:Mem→Prop
 | []=>True
 | b :: l=>WfB b∧WfM l
theorem ZKQ {t:Ty} {xs:List t.den} {v:Value} {F:List Nat} (h:Zcj W (Zbv W t) t.n xs v F):WfT (.list t) xs:=by
 obtain ⟨F',h1,_⟩:=Zbv.rep (.list t) (x:=xs) (cs:=[v]) ⟨v,rfl,h⟩
 exact Ztd (.list t) h1
theorem ZMD {b:Blk} {e:EB} (h:ZMX X W E M b e):WfB b:=by
 cases b with
 | row t xs v c hh =>
  cases hh with
  | none=>exact ZKQ h
  | some _=>trivial
 | box l=>obtain ⟨_,cs,T,_,h⟩:=h; exact ZDL h
 | mp _=>trivial
 | dead=>trivial
theorem ZME (hM:RepM X W E M):WfM M:=by
 have:∀ b ∈ M,WfB b:=fun b hb=>by
  obtain ⟨i,hi⟩:=List.mem_iff_getElem?.1 hb
  have hl:i < E.length:=by rw [← hM.len]; exact (List.getElem?_eq_some_iff.1 hi).1
  exact ZMD (hM.at_ i b _ hi (List.getElem?_eq_getElem hl))
 clear hM
 induction M with
 | nil=>trivial
 | cons b l ih=>exact ⟨this b List.mem_cons_self,ih (fun b hb=>this b (List.mem_cons_of_mem _ hb))⟩
theorem ZcS {T:Tab P} {L:Nat→List AV→Mem→Zbd} {f:FuncId} {fn:Func} {args:List AW} {res:AV} {new:Mem} (hf:P.funcs[f]?=some fn) (hC:(T.C=none∧T.n0=0)∧T.inp=[]) (h:WfA args→ZGy T L fn args [] (ZOe res new)):Zao P f args res new:=fun X W vs hsz hgl hr =>
 (ZlQ (E0:=[]) hf ⟨.inl hC.1.1,hC.1.2,(fun i hi=>by rw [hC.2] at hi; cases hi),hgl⟩ (h (Zmv hr)) (ZOg hsz) hr (fun i hi=>by rw [hC.2] at hi; cases hi)).mono fun e W' hq=>by
  exact ZzN
theorem Zeq {T:Tab P} {L:Nat→List AV→Mem→Zbd} {f:FuncId} {fn:Func} {args:List AW} {res:AV} {vs:List Value} (hf:P.funcs[f]?=some fn) (hn0:T.n0=0∧T.inp=[]) (hT:∀ c,T.C=some c→ZN6 X W c) (hsz:∀ b ∈ X,b < W.heap.size) (hgl:Zko W []) (hr:Zd2 X W [] [] args vs)
 (h:WfA args→ZGy T L fn args [] (ZOe res [])) :
 Calls P f vs.toArray W (fun e W'=>∃ v E',e=.returned v∧ZbU W [] W' E'∧RepM X W' E' []∧Zc5 X W' E' [] res v) :=
 (ZlQ (E0:=[]) hf ⟨.inr ⟨rfl,hT⟩,hn0.1,(fun i hi=>by rw [hn0.2] at hi; cases hi),hgl⟩ (h (Zmv hr)) (ZOg hsz) hr (fun i hi=>by rw [hn0.2] at hi; cases hi)).mono fun e W' hq=>by
  exact ZzN
theorem Zdu {T:Tab P} {L:Nat→List AV→Mem→Zbd} {f:FuncId} {fn:Func} {ins:List MTy} {x y:MD ins} {res:AV} {new:Mem} (hf:P.funcs[f]?=some fn) (hC:T.C=none) (hn0:T.n0=(Zh3 0 ins x).length) (hinp:T.inp=inpM 0 ins)
 (hsame:ZgX (Zh3 0 ins x) (Zfj 0 ins y ++ new)=true)
 (h:WfA (Zd7 0 ins x)→WfM (Zh3 0 ins x)→ZGy T L fn (Zd7 0 ins x) (Zh3 0 ins x) (ZPq ins (Zfj 0 ins y ++ new) res)):Zep P f (Zd7 0 ins x) (Zh3 0 ins x) (Zfj 0 ins y ++ new) (inpM 0 ins) res:=fun X W E0 vs hgl hM0 hr=>by
 have hrow:∀ i ∈ T.inp,∃ (t:Ty) (xs:List t.den) (v c:Nat),(Zh3 0 ins x)[i]?=some (.row t xs v c none):=fun i hi=>by
  rw [hinp] at hi
  obtain ⟨_,h⟩:=ZvA (x:=x) hi
  exact h
 have hl0:(Zh3 0 ins x).length=E0.length:=hM0.len
 refine (ZlQ (T:=T) hf ⟨.inl hC,by rw [hn0,hl0],(fun i hi=>by
  obtain ⟨t,xs,v,c,h⟩:=hrow i hi
  rw [← hl0]
  exact (List.getElem?_eq_some_iff.1 h).1),hgl⟩ (h (Zmv hr) (ZME hM0)) hM0 hr hrow).mono fun e W' hq=>?_
 obtain ⟨v,E',M',r,rfl,hs,m,hv,hn,hchk⟩:=hq
 obtain ⟨qm,hqm⟩:∃ qm,qm=Zfj 0 ins y ++ new:=⟨_,rfl⟩
 rw [← hqm] at hn hchk hsame ⊢
 obtain ⟨us1,hus1⟩:∃ us1,us1=(ZlI M' qm [] (Zox 0 ins)).used:=⟨_,rfl⟩
 rw [← hus1] at hn hchk
 obtain ⟨us2,hus2⟩:∃ us2,us2=(ZnT M' qm us1 r res).used:=⟨_,rfl⟩
 rw [← hus2] at hchk
 simp only [Bool.and_eq_true] at hchk
 obtain ⟨⟨c1,c2⟩,c3,c4⟩:=hchk
 have c1:=Nat.eq_of_beq_eq_true c1
 have hlE:∀ j,j < (Zh3 0 ins x).length→∃ ej e0,E'[j]?=some ej∧E0[j]?=some e0∧ej.blk=e0.blk:=fun j hj=>by
  have h0:E0[j]?=some (E0[j]'(by omega)):=List.getElem?_eq_getElem (by omega)
  obtain ⟨ej,q1,q2⟩:=hs.g.blk j _ h0
  exact ⟨ej,_,q1,h0,q2⟩
 have hu1:Zc2 X X W' E' M' qm (us1 ++ us2) 0 us1:=by
  have:=Zyj (X':=X) (us:=us1 ++ us2) (acc:=[]) m (fun b hb=>.inl hb) (fun q u h=>by simp at h) hn.1 (fun q u h=>by rw [← hus1] at h; rw [List.length_nil,Nat.zero_add,List.getElem?_append_left (List.getElem?_eq_some_iff.1 h).1]; exact h) (fun p hp=>by
   rcases pairs_name hp with ⟨j,h1,h2⟩ | ⟨j,h1,h2⟩ | h1
   ·rw [h1]
    obtain ⟨ej,e0,q1,_⟩:=hlE j (by rw [ZES]; omega)
    exact ⟨_,ej,q1,rfl⟩
   ·rw [h2]
    have hv0:=List.all_eq_true.1 c4 j h1
    rcases hs.kept j (by rw [hinp]; exact h1) with hd | ⟨t,xs,v',c,hh,k1,_⟩
    ·rw [hd] at hv0; cases hv0
    ·rw [k1] at hv0
     cases hh with
     | some _=>cases hv0
     | none =>
     obtain rfl:=Nat.eq_of_beq_eq_true (show Nat.beq v' 0=true from hv0)
     obtain ⟨_,t2,xs2,v2,c2,h3⟩:=ZvA (x:=x) h1
     obtain ⟨ej,e0,q1,_⟩:=hlE j (by have:=(List.getElem?_eq_some_iff.1 h3).1; omega)
     have hol:Zcj W' (Zbv W' t) t.n xs ej.val ej.foot:=m.at_ j _ ej k1 q1
     obtain ⟨A,c',hsl⟩:=Zdp hol
     refine ⟨ej.val,by rw [hsl]; rfl,?_⟩
     unfold Zcz
     rw [k1]
     exact ⟨Nat.le_refl _,fun _=>⟨ej,q1,rfl⟩⟩
   ·rw [h1]
    exact ⟨.slice none 0 0,rfl,rfl⟩)
  rw [← hus1] at this
  exact this
 obtain ⟨hu2,hv2⟩:=Zs1 (X':=X) (us:=us1 ++ us2) (acc:=us1) m (fun b hb=>.inl hb) (fun q u h=>by rw [List.getElem?_append_left (List.getElem?_eq_some_iff.1 h).1]; exact h) hn.2 hv (fun q u h=>by rw [← hus2] at h; rw [List.getElem?_append_right (by omega),Nat.add_sub_cancel_left]; exact h)
 rw [← hus2] at hu2
 have hu:Zc2 X X W' E' M' qm (us1 ++ us2) 0 (us1 ++ us2):=hu1.app (by rw [Nat.zero_add]; exact hu2)
 refine ⟨v,pickE E' (us1 ++ us2),rfl,⟨hs.g.os,hs.g.tape,hs.g.output,hs.g.size,hs.g.keep,fun b hb=>hs.g.new b (Zex b hb)⟩,fun i l e0 hb he0=>?_,fun i hi e0 he0=>?_,ZqA m hu c1 c2 (fun b hb hf=>m.xlt b hb (Zex b hf)) m.xsz,hv2⟩
 ·have hq:∃ l',qm[i]?=some (.box l'):=ZlL hsame hb
  obtain ⟨l',hq⟩:=hq
  have hin:i ∈ ZxL 0 qm:=by have:=Zte (k:=0) hq; rwa [Nat.zero_add] at this
  have hus:=Zyi c3 (List.mem_append_left _ hin)
  obtain ⟨ej,e0',q1,q2,q3⟩:=hlE i (List.getElem?_eq_some_iff.1 hb).1
  rw [he0] at q2
  obtain rfl:=Option.some.inj q2
  exact ⟨ej,ZeE hus q1,q3⟩
 ·have hus:=Zyi c3 (List.mem_append_right _ hi)
  have hv0:=List.all_eq_true.1 c4 i hi
  rcases hs.kept i (by rw [hinp]; exact hi) with hd | ⟨t,xs,v',c,hh,k1,k2⟩
  ·rw [hd] at hv0; cases hv0
  ·rw [k1] at hv0
   cases hh with
   | some _=>cases hv0
   | none =>
   obtain rfl:=Nat.eq_of_beq_eq_true (show Nat.beq v' 0=true from hv0)
   obtain ⟨ej,q1,q2⟩:=k2 rfl e0 he0
   exact ⟨ej,ZeE hus q1,q2⟩
theorem RV.of_b {f:FuncId} {args:List AW} {c:AC} {w:World} {vs:List Value} {u:Value} (h:Zao P f args (.c c) []) (hgl:Zko w []) (hr:Zd2 [] w [] [] args vs) (hc:∀ W' E' v,Zb3 [] W' E' [] c v→v=u):Calls P f vs.toArray w (RV u w) :=
 (h [] w vs (by simp) hgl hr).mono fun e W' hq=>by
  obtain ⟨v,E',rfl,g,m,hv⟩:=hq
  obtain rfl:=hc _ _ _ hv
  exact ⟨rfl,Zkg g.below⟩
theorem ZI6 {w:World} (t:Ty) {x:t.den} {cs:List Value} (h:ZLZ w x cs):ZkN [] w [] [] (.ag (cellsOf t x)) (.agg cs.toArray):=by
 obtain ⟨F,h⟩:=h
 exact ⟨cs,rfl,ZdB (L:=.no) t h (fun b hb=>⟨by simp [foots],GoRep.lt h b hb⟩)⟩
end
theorem ZoQ {b:Bool} {p q:Prop}:(bif b then p else q)↔((b=true→p)∧(b=false→q)):=by cases b <;> simp
section
variable {P:Program} {X X2:List Nat} {W W' : World} {E:Env} {M:Mem}
def Ty.quo:Ty→Ty
 | .int k=>.int k
 | .bool=>.bool
 | .str=>.str
 | .opq=>.opq
 | .prod a b=>.prod a.quo b.quo
 | .list _=>.opq
def ZAO (W:World):(t:Ty)→t.den→t.quo.den→List Nat→Prop
 | .int _,x,q,F=>@Eq Int x q∧F=[]
 | .bool,x,q,F=>@Eq Bool x q∧F=[]
 | .str,x,q,F=>@Eq ByteArray x q∧F=[]
 | .opq,x,q,F=>@Eq Value x q∧F=[]
 | .prod a b,x,q,F=>∃ F1 F2,ZAO W a x.1 q.1 F1∧ZAO W b x.2 q.2 F2∧F=F1 ++ F2
 | .list a,xs,q,F=>Zcj W (Zbv W a) a.n xs q F
theorem ZKR:∀ t:Ty,t.quo.n=t.n
 | .int _=>rfl
 | .bool=>rfl
 | .str=>rfl
 | .opq=>rfl
 | .prod a b=>by
  show a.quo.n + b.quo.n=a.n + b.n
  rw [ZKR a,ZKR b]
 | .list _=>rfl
theorem ZvB:∀ t:Ty,t.quo.flat=true
 | .int _=>rfl
 | .bool=>rfl
 | .str=>rfl
 | .opq=>rfl
 | .prod a b=>by
  show (a.quo.flat && b.quo.flat)=true
  rw [ZvB a,ZvB b]
  rfl
 | .list _=>rfl
theorem ZvC:∀ (t:Ty) {x:t.den} {cs:List Value} {F:List Nat},Zbv W t x cs F→∃ q:t.quo.den,Zbv W t.quo q cs []∧ZAO W t x q F
 | .int _,x,_,_,h=>⟨x,⟨h.1,h.2.1,rfl⟩,rfl,h.2.2⟩
 | .bool,x,_,_,h=>⟨x,⟨h.1,rfl⟩,rfl,h.2⟩
 | .str,x,_,_,h=>⟨x,⟨h.1,h.2.1,rfl⟩,rfl,h.2.2⟩
 | .opq,x,_,_,h=>⟨x,⟨h.1,h.2.1,rfl⟩,rfl,h.2.2⟩
 | .prod a b,x,_,_,⟨c1,c2,F1,F2,h1,h2,e1,e2⟩=>by
  obtain ⟨q1,r1,k1⟩:=ZvC a h1
  obtain ⟨q2,r2,k2⟩:=ZvC b h2
  exact ⟨(q1,q2),⟨c1,c2,[],[],r1,r2,e1,rfl⟩,F1,F2,k1,k2,e2⟩
 | .list a,xs,_,_,⟨v,e,h⟩=>by
  obtain ⟨T,cells,G,h0,h1,h2⟩:=h
  exact ⟨v,⟨e,Zd6 h0,rfl⟩,T,cells,G,h0,h1,h2⟩
theorem ZqQ:∀ (t:Ty) {x:t.den} {q:t.quo.den} {cs:List Value} {F:List Nat},Zbv W t.quo q cs []→ZAO W t x q F→Zbv W t x cs F
 | .int _,x,q,_,_,h,⟨k1,k2⟩=>by
  exact ZrA
 | .bool,x,q,_,_,h,⟨k1,k2⟩=>by
  have k1:x=q:=k1
  subst k1
  exact ⟨h.1,k2⟩
 | .str,x,q,_,_,h,⟨k1,k2⟩=>by
  exact ZrA
 | .opq,x,q,_,_,h,⟨k1,k2⟩=>by
  exact ZrA
 | .prod a b,x,q,_,_,⟨c1,c2,G1,G2,h1,h2,e1,e2⟩,⟨F1,F2,k1,k2,e3⟩=>by
  have e2:[]=G1 ++ G2:=e2
  obtain ⟨rfl,rfl⟩:=List.append_eq_nil_iff.1 e2.symm
  exact ⟨c1,c2,F1,F2,ZqQ a h1 k1,ZqQ b h2 k2,e1,e3⟩
 | .list a,xs,q,_,_,h,k=>⟨q,h.1,k⟩
theorem Zcj.keep2 {t:Ty} {xs:List t.den} {v:Value} {F:List Nat} (h:Zcj W (Zbv W t) t.n xs v F) (hk:∀ b ∈ F,W'.heap[b]?=W.heap[b]?):Zcj W' (Zbv W' t) t.n xs v F:=Zcj.keep h hk
theorem ZAO.keep:∀ (t:Ty) {x:t.den} {q:t.quo.den} {F:List Nat},ZAO W t x q F→(∀ b ∈ F,W'.heap[b]?=W.heap[b]?)→ZAO W' t x q F
 | .int _,_,_,_,h,_=>h
 | .bool,_,_,_,h,_=>h
 | .str,_,_,_,h,_=>h
 | .opq,_,_,_,h,_=>h
 | .prod a b,_,_,_,⟨F1,F2,h1,h2,e⟩,hk=>⟨F1,F2,ZAO.keep a h1 (fun p hp=>hk p (by rw [e]; simp [hp])),ZAO.keep b h2 (fun p hp=>hk p (by rw [e]; simp [hp])),e⟩
 | .list a,_,_,_,h,hk=>Zcj.keep2 (t:=a) h hk
def Zdc (W:World) (t:Ty):List t.den→List t.quo.den→List Nat→Prop
 | [],[],G=>G=[]
 | x :: xs,q :: qs,G=>∃ G1 G2,ZAO W t x q G1∧Zdc W t xs qs G2∧G=G1 ++ G2
 | _,_,_=>False
theorem ZvD {t:Ty}:∀ {xs:List t.den} {cells:List Value} {G:List Nat},Zb0 (Zbv W t) xs cells G→∃ qs:List t.quo.den,Zb0 (Zbv W t.quo) qs cells []∧Zdc W t xs qs G
 | [],_,_,h=>⟨[],⟨h.1,rfl⟩,h.2⟩
 | _ :: _,_,_,⟨c1,c2,G1,G2,h1,h2,e1,e2⟩=>by
  obtain ⟨q,r1,k1⟩:=ZvC t h1
  obtain ⟨qs,r2,k2⟩:=ZvD h2
  exact ⟨q :: qs,⟨c1,c2,[],[],r1,r2,e1,rfl⟩,G1,G2,k1,k2,e2⟩
theorem ZqR {t:Ty}:∀ {xs:List t.den} {qs:List t.quo.den} {cells:List Value} {G:List Nat},Zb0 (Zbv W t.quo) qs cells []→Zdc W t xs qs G→Zb0 (Zbv W t) xs cells G
 | [],[],_,_,h,k=>⟨h.1,k⟩
 | [],_ :: _,_,_,_,k=>k.elim
 | _ :: _,[],_,_,_,k=>k.elim
 | _ :: _,_ :: _,_,_,⟨c1,c2,H1,H2,h1,h2,e1,e2⟩,⟨G1,G2,k1,k2,e3⟩=>by
  obtain ⟨rfl,rfl⟩:=List.append_eq_nil_iff.1 e2.symm
  exact ⟨c1,c2,G1,G2,ZqQ t h1 k1,ZqR h2 k2,e1,e3⟩
theorem Zdc.app {t:Ty}:∀ {xs ys:List t.den} {qs rs:List t.quo.den} {G H:List Nat},Zdc W t xs qs G→Zdc W t ys rs H→Zdc W t (xs ++ ys) (qs ++ rs) (G ++ H)
 | [],_,[],_,_,_,h,k=>by
  obtain rfl:_=[]:=h
  exact k
 | [],_,_ :: _,_,_,_,h,_=>h.elim
 | _ :: _,_,[],_,_,_,h,_=>h.elim
 | _ :: _,_,_ :: _,_,_,_,⟨G1,G2,h1,h2,e⟩,k=>⟨G1,_,h1,Zdc.app h2 k,by rw [e,List.append_assoc]⟩
theorem Zdc.split {t:Ty}:∀ (k:Nat) {xs:List t.den} {qs:List t.quo.den} {G:List Nat},Zdc W t xs qs G→∃ G1 G2,G=G1 ++ G2∧Zdc W t (xs.take k) (qs.take k) G1∧Zdc W t (xs.drop k) (qs.drop k) G2
 | 0,_,_,G,h=>⟨[],G,rfl,rfl,h⟩
 | _ + 1,[],[],G,h=>⟨[],G,rfl,rfl,h⟩
 | _ + 1,[],_ :: _,_,h=>h.elim
 | _ + 1,_ :: _,[],_,h=>h.elim
 | k + 1,_ :: _,_ :: _,_,⟨G1,G2,h1,h2,e⟩=>by
  obtain ⟨A,B,e1,q1,q2⟩:=Zdc.split k h2
  exact ⟨G1 ++ A,B,by rw [e,e1,List.append_assoc],⟨G1,A,h1,q1,rfl⟩,q2⟩
theorem Zdc.out {t:Ty} (k:Nat) {xs:List t.den} {qs:List t.quo.den} {G:List Nat} (h:Zdc W t xs qs G):∃ G1 Gd G3,G=G1 ++ (Gd ++ G3)∧Zdc W t (xs.take k ++ xs.drop (k + 1)) (qs.take k ++ qs.drop (k + 1)) (G1 ++ G3):=by
 obtain ⟨G1,G2,e1,q1,q2⟩:=h.split k
 obtain ⟨Gd,G3,e2,q3,q4⟩:=q2.split 1
 rw [List.drop_drop,List.drop_drop] at q4
 exact ⟨G1,Gd,G3,by rw [e1,e2],q1.app q4⟩
theorem Zdc.len {t:Ty}:∀ {xs:List t.den} {qs:List t.quo.den} {G:List Nat},Zdc W t xs qs G→qs.length=xs.length
 | [],[],_,_=>rfl
 | [],_ :: _,_,h=>h.elim
 | _ :: _,[],_,h=>h.elim
 | _ :: _,_ :: _,_,⟨_,_,_,h,_⟩=>by rw [List.length_cons,List.length_cons,Zdc.len h]
theorem Zdc.keep {t:Ty}:∀ {xs:List t.den} {qs:List t.quo.den} {G:List Nat},Zdc W t xs qs G→(∀ b ∈ G,W'.heap[b]?=W.heap[b]?)→Zdc W' t xs qs G
 | [],[],_,h,_=>h
 | [],_ :: _,_,h,_=>h.elim
 | _ :: _,[],_,h,_=>h.elim
 | _ :: _,_ :: _,_,⟨G1,G2,h1,h2,e⟩,hk=>⟨G1,G2,ZAO.keep t h1 (fun p hp=>hk p (by rw [e]; simp [hp])),h2.keep (fun p hp=>hk p (by rw [e]; simp [hp])),e⟩
theorem Zdc.map {t:Ty} {β:Type} (f:t.den→β) (g:t.quo.den→β) (hfg:∀ x q F,ZAO W t x q F→g q=f x):∀ {xs:List t.den} {qs:List t.quo.den} {G:List Nat},Zdc W t xs qs G→qs.map g=xs.map f
 | [],[],_,_=>rfl
 | [],_ :: _,_,h=>h.elim
 | _ :: _,[],_,h=>h.elim
 | _ :: _,_ :: _,_,⟨_,_,h1,h2,_⟩=>by rw [List.map_cons,List.map_cons,hfg _ _ _ h1,Zdc.map f g hfg h2]
theorem ZqS {t:Ty} {xs:List t.den} {v:Value} {F:List Nat} (h:Zcj W (Zbv W t) t.n xs v F):∃ (qs:List t.quo.den) (G:List Nat),F=v.ownBlock.toList ++ G∧Zcj W (Zbv W t.quo) t.quo.n qs v v.ownBlock.toList∧Zdc W t xs qs G:=by
 obtain ⟨T,cells,G,h0,h1,h2⟩:=h
 obtain ⟨qs,r1,r2⟩:=ZvD h1
 exact ⟨qs,G,h2,⟨T,cells,[],by rw [ZKR,r2.len]; exact h0,r1,by simp⟩,r2⟩
theorem ZGJ {t:Ty} {xs:List t.den} {qs:List t.quo.den} {v:Value} {F G:List Nat} (h:Zcj W (Zbv W t.quo) t.quo.n qs v F) (k:Zdc W t xs qs G):Zcj W (Zbv W t) t.n xs v (F ++ G)∧F=v.ownBlock.toList:=by
 obtain ⟨T,cells,G0,h0,h1,h2⟩:=h
 have e0:G0=[]:=by
  have hz:=h1.all (Q:=fun _=>False) (fun x cs F h b hb=>by rw [ZmL t.quo (ZvB t) h] at hb; cases hb)
  cases G0 with
  | nil=>rfl
  | cons b l=>exact (hz b (by simp)).elim
 subst e0
 rw [List.append_nil] at h2
 rw [ZKR,k.len] at h0
 exact ⟨⟨T,cells,G,h0,ZqR h1 k,by rw [h2]⟩,h2⟩
theorem RepM.row {i:Nat} {t:Ty} {xs:List t.den} {v c:Nat} {e:EB} (hM:RepM X W E M) (hi:M[i]?=some (.row t xs v c none)) (he:E[i]?=some e):Zcj W (Zbv W t) t.n xs e.val e.foot:=hM.at_ i _ e hi he
theorem ZoR {t:Ty} {qs:List t.quo.den} {v:Value} (h:Zcj W (Zbv W t.quo) t.quo.n qs v v.ownBlock.toList) (hx:∀ b ∈ v.ownBlock.toList,b ∉ X2):Zb3 X2 W [] [] (.hs .no t.quo qs) v:=by
 obtain ⟨F',⟨A,c,e1,hs⟩,hF⟩:=Zbv.rep (.list t.quo) (x:=qs) (cs:=[v]) (F:=v.ownBlock.toList) ⟨v,rfl,h⟩
 have hlt:=Zbv.lt (.list t.quo) (x:=qs) (cs:=[v]) (F:=v.ownBlock.toList) ⟨v,rfl,h⟩
 have e2:v=.slice A qs.length c:=by simpa using e1
 refine ⟨by rw [e2]; rfl,F',⟨A,c,by rw [e2],hs⟩,fun b hb=>⟨⟨by simp [foots],hx b (hF b hb)⟩,hlt b (hF b hb)⟩⟩
def ZJL (n:Nat):Env:=List.replicate n ⟨0, .slice none 0 0,[]⟩
theorem ZGK (n:Nat):foots (ZJL n)=[]:=by
 unfold foots ZJL
 rw [List.flatMap_replicate]
 simp
theorem ZI7 {pm:Mem} {t:Ty} {ts:List Ty} {E' : Env} {v:Value} {rs:List t.quo.den} {ys:List t.den} {G:List Nat} (hM:RepM X W E pm) (hg:ZbU W [] W' E') (hm:RepM X2 W' E' [.row t.quo rs 0 0 none])
 (hv:Zb3 X2 W' E' [.row t.quo rs 0 0 none] (.row 0 0) v) (hX:∀ b ∈ X,b ∈ X2) (hq:Zdc W t ys rs G) (hn:G.Nodup) (hG:∀ b ∈ G,b ∈ foots E) :
 ∃ E2,ZMr W E W' E2∧RepM X W' E2 (ts.map (fun a=>Blk.row a [] 0 0 none) ++ [.row t ys 0 0 none])∧Zb3 X W' E2 (ts.map (fun a=>Blk.row a [] 0 0 none) ++ [.row t ys 0 0 none]) (.row ts.length 0) v:=by
 have hl:E'.length=1:=by rw [← hm.len]; rfl
 obtain ⟨e1,rfl⟩:∃ e1,E'=[e1]:=by
  match E',hl with
  | [e],_=>exact ⟨e,rfl⟩
 have hrow:Zcj W' (Zbv W' t.quo) t.quo.n rs e1.val e1.foot:=hm.row (i:=0) rfl rfl
 have hve:v=e1.val:=by
  have:=hv.2
  unfold Zcz at this
  obtain ⟨e,he,h⟩:=this.2 rfl
  obtain rfl:e1=e:=Option.some.inj he
  exact h
 have hGlt:∀ b ∈ G,b < W.heap.size:=fun b hb=>hM.lt b (hG b hb)
 have hq' : Zdc W' t ys rs G:=hq.keep (fun b hb=>hg.keep b (hGlt b hb) (by simp [foots]))
 obtain ⟨ho,hf⟩:=ZGJ hrow hq'
 have hfe:∀ b ∈ e1.foot,W.heap.size≤b:=fun b hb=>(hg.new b (by simp [foots,hb])).resolve_left (by simp [foots])
 have hfoot:foots (ZJL ts.length ++ [⟨0,e1.val,e1.foot ++ G⟩])=e1.foot ++ G:=by rw [ZbL,ZGK]; simp [foots]
 have hlenE:(ZJL ts.length).length=ts.length:=by simp [ZJL]
 refine ⟨ZJL ts.length ++ [⟨0,e1.val,e1.foot ++ G⟩],⟨hg.os,hg.tape,hg.output,hg.size,fun b hb _=>hg.keep b hb (by simp [foots]),fun b hb=>?_⟩,⟨by simp [ZJL],?_,fun i b e hb he=>?_,fun b hb=>?_,fun b hb=>?_,fun b hb=>?_⟩,?_⟩
 ·rw [hfoot] at hb
  rcases List.mem_append.1 hb with hb | hb
  ·exact .inr (hfe b hb)
  ·exact .inl (hG b hb)
 ·rw [hfoot,List.nodup_append]
  refine ⟨?_,hn,fun a ha b hb e=>?_⟩
  ·have:=hm.nodup
   simpa [foots] using this
  ·subst e
   have:=hfe a ha
   have:=hGlt a hb
   omega
 ·by_cases hi:i < ts.length
  ·rw [List.getElem?_append_left (by simpa using hi),List.getElem?_map] at hb
   rw [List.getElem?_append_left (by rw [hlenE]; exact hi)] at he
   have he:e=⟨0, .slice none 0 0,[]⟩:=by
    unfold ZJL at he
    rw [List.getElem?_replicate,if_pos hi] at he
    exact (Option.some.inj he).symm
   subst he
   rw [List.getElem?_eq_getElem hi] at hb
   obtain rfl:=Option.some.inj hb
   exact ⟨0,[],[],World.ownsRow_nil W' 0 0 _,⟨rfl,rfl⟩,rfl⟩
  ·rw [List.getElem?_append_right (by simp; omega)] at hb
   rw [List.getElem?_append_right (by rw [hlenE]; omega),hlenE] at he
   simp only [List.length_map] at hb
   have h0:i - ts.length=0:=by
    exact Zrx
   rw [h0] at hb he
   exact ZAp
 ·rw [hfoot] at hb
  rcases List.mem_append.1 hb with hb | hb
  ·exact hm.lt b (by simp [foots,hb])
  ·exact Nat.lt_of_lt_of_le (hGlt b hb) hg.size
 ·rw [hfoot]
  intro hb'
  rcases List.mem_append.1 hb' with hb' | hb'
  ·exact hm.xlt b (hX b hb) (by simp [foots,hb'])
  ·exact hM.xlt b hb (hG b hb')
 ·exact Nat.lt_of_lt_of_le (hM.xsz b hb) hg.size
 ·refine ⟨by rw [hve]; obtain ⟨T,cells,G0,h0,_⟩:=ho; exact Zd6 h0,?_⟩
  unfold Zcz
  rw [List.getElem?_append_right (by simp),List.getElem?_append_right (by simp [ZJL])]
  simp [hve,ZJL]
end
end Go.Proofs.YtafhbjjcpncfnaaGreat
