/-
  Contracts of functions of the program, each said of symbolic values, and plain laws; no condition beyond each statement's own.
-/
import Derived.Test.YtmmpgjcpielefaaGreatGLRecActs10
set_option linter.unusedSimpArgs false
set_option linter.unusedVariables false
namespace Go.Sym
def Ret {α:Type} (F:(α→Prop)→Prop):Prop:= ∀k,F k→ ∃x,k x∧ ∀k':α→Prop,k' x→F k'
theorem z69 {α:Type} (x:α):Ret (fun k=>k x):=fun _ h=>⟨x,h,fun _ h=>h⟩
theorem zh {α:Type}:Ret (fun _:α→Prop=>False):=fun _ h=>h.elim
theorem yt {α:Type} {p:Prop} {F:(α→Prop)→Prop} (h:Ret F):Ret (fun k=>Pre p (F k)):=fun k hk=>by
  obtain ⟨h1,h2⟩:=zn hk
  obtain ⟨x,h3,h4⟩:=h k h2
  exact ⟨x,h3,fun k' h=>zr h1 (h4 k' h)⟩
theorem z9o {R:SV→Prop}:Ret (fun k:SV→Prop=>znw R k):=fun k hk=>by
  obtain ⟨v,h1,h2⟩:=ycr hk
  exact ⟨v,h2,fun k' h=>zdj v h1 h⟩
theorem z4w {α:Type} {t:Bool} {F G:(α→Prop)→Prop} (h:Ret F) (h':Ret G):Ret (fun k=>zx t (F k) (G k)):=fun k hk=>by
  obtain ⟨h1,h2⟩:=zw hk
  cases t with
  |true=>
   obtain ⟨x,h3,h4⟩:=h k (h1 rfl)
   exact ⟨x,h3,fun k' h=>zj rfl (h4 k' h)⟩
  |false=>
   obtain ⟨x,h3,h4⟩:=h' k (h2 rfl)
   exact ⟨x,h3,fun k' h=>zk rfl (h4 k' h)⟩
section
variable {β:Type}
theorem zmc {α:Type} {a b:List α} {G:List α→(β→Prop)→Prop} (h: ∀l,Ret (G l)):Ret (fun k=>zej a b fun l=>G l k):=by
  induction a generalizing G with
  |nil=>exact h _
  |cons y ys ih=>exact ih (G:=fun l=>G (y ::l)) fun l=>h _
theorem yeg {α:Type} {l:List α} {i:Nat} {x:α} {G:List α→(β→Prop)→Prop} (h: ∀l,Ret (G l)):Ret (fun k=>zkk l i x fun l=>G l k):=by
  induction l generalizing G i with
  |nil=>exact zh
  |cons y ys ih=>
   cases i with
   |zero=>exact h _
   |succ i=>exact ih (G:=fun l=>G (y ::l)) fun l=>h _
theorem zlg {α:Type} {l:List α} {i:Nat} {G:α→(β→Prop)→Prop} (h: ∀x,Ret (G x)):Ret (fun k=>zfb l i fun x=>G x k):=by
  induction l generalizing i with
  |nil=>exact zh
  |cons y ys ih=>
   cases i with
   |zero=>exact h _
   |succ i=>exact ih
theorem yp {α:Type} {l:List (Nat×α)} {n:Nat} {G:α→(β→Prop)→Prop} (h: ∀x,Ret (G x)):Ret (fun k=>yn l n fun x=>G x k):=by
  induction l with
  |nil=>exact zh
  |cons p r ih=>
   obtain ⟨i,v⟩:=p
   simp only [yn]
   generalize Nat.beq i n=t
   cases t
   ·exact ih
   ·exact h _
theorem z6q {v:Value} {G:SV→(β→Prop)→Prop} (h: ∀x,Ret (G x)):Ret (fun k=>zn2 v fun x=>G x k):=by
  intro k hk
  unfold zn2 at hk ⊢
  split at hk
  case h_12=>exact hk.elim
  all_goals (try split at hk)
  all_goals first
    |exact hk.elim
    |exact h _ k hk
    |(rename_i e;simp only [e];exact h _ k hk)
theorem zay {tm:List (Nat×SV)} {x:Operand} {G:SV→(β→Prop)→Prop} (h: ∀x,Ret (G x)):Ret (fun k=>evK tm x fun x=>G x k):=by
  cases x with
  |tmp t=>exact yp h
  |const v=>exact z6q h
  |func f=>exact h _
  |global g=>exact zh
theorem z5g {tm:List (Nat×SV)} {xs:List Operand} {G:List SV→(β→Prop)→Prop} (h: ∀x,Ret (G x)):Ret (fun k=>z21 tm xs fun x=>G x k):=by
  induction xs generalizing G with
  |nil=>exact h _
  |cons x xs ih=>exact zay fun v=>ih (G:=fun vs=>G (v ::vs)) fun vs=>h _
theorem zrm {tm:List (Nat×SV)} {xs:List (Nat×Operand)} {G:List (Nat×SV)→(β→Prop)→Prop} (h: ∀x,Ret (G x)):Ret (fun k=>zj3 tm xs fun x=>G x k):=by
  induction xs generalizing G with
  |nil=>exact h _
  |cons x xs ih=>
   obtain ⟨i,x⟩:=x
   exact zay fun v=>ih (G:=fun vs=>G ((i,v) ::vs)) fun vs=>h _
theorem zp9 {v:SV} {G:Nat→(β→Prop)→Prop} (h: ∀x,Ret (G x)):Ret (fun k=>zv3 v fun x=>G x k):=by
  cases v<;>first|exact zh|exact h _|exact yt (h _)
theorem ztx {v:SV} {G:Nat→(β→Prop)→Prop} (h: ∀x,Ret (G x)):Ret (fun k=>z7d v fun x=>G x k):=by
  cases v<;>first|exact zh|exact h _|exact yt (h _)
theorem zl7 {tm:List (Nat×SV)} {x:Option Operand} {G:Option Nat→(β→Prop)→Prop} (h: ∀x,Ret (G x)):Ret (fun k=>zih tm x fun x=>G x k):=by
  cases x with
  |none=>exact h _
  |some x=>exact zay fun v=>zp9 (G:=fun n=>G (some n)) fun n=>h _
theorem zkx {ps:List SV} {j b:Nat} {G:List SV→List SV→(β→Prop)→Prop} (h: ∀a r,Ret (G a r)):Ret (fun k=>zb5 ps j b fun a r=>G a r k):=by
  induction ps generalizing j b G with
  |nil=>
   cases j with
   |zero=>
    simp only [zb5]
    generalize Nat.beq b 0=t
    cases t
    ·exact zh
    ·exact h _ _
   |succ j=>exact zh
  |cons p ps ih=>
   cases j with
   |zero=>
    simp only [zb5]
    generalize Nat.beq b 0=t
    cases t
    ·exact zh
    ·exact h _ _
   |succ j=>
    simp only [zb5]
    generalize Nat.ble p.size b=t
    cases t
    ·exact zh
    ·exact ih (G:=fun a r=>G (p ::a) r) fun a r=>h _ _
theorem z0q {ps:List SV} {n:Nat} {G:List SV→List SV→(β→Prop)→Prop} (h: ∀a r,Ret (G a r)):Ret (fun k=>zhp ps n fun a r=>G a r k):=by
  induction ps generalizing n G with
  |nil=>
   cases n with
   |zero=>exact h _ _
   |succ n=>exact zh
  |cons p ps ih=>
   cases n with
   |zero=>exact h _ _
   |succ n=>
    simp only [zhp]
    generalize Nat.ble p.size (n+1)=t
    cases t
    ·exact zh
    ·exact ih (G:=fun a r=>G (p ::a) r) fun a r=>h _ _
theorem z1q {ps:List SV} {G:SV→(β→Prop)→Prop} (h: ∀v,Ret (G v)):Ret (fun k=>zjz ps fun v=>G v k):=by
  match ps with
  | []=>exact h _
  | [p]=>
    simp only [zjz]
    generalize p.isRow=t
    cases t
    ·exact h _
    ·exact h _
  |p ::q ::r=>exact h _
theorem znf {ps:List SV} {j b c:Nat} {G:Nat→Nat→List (Nat×Nat)→(β→Prop)→Prop} (h: ∀a b c,Ret (G a b c)):Ret (fun k=>zhb ps j b c fun x y z=>G x y z k):=by
  induction ps generalizing j b c with
  |nil=>
   cases c with
   |zero=>exact h _ _ _
   |succ c=>exact zh
  |cons p ps ih=>
   cases c with
   |zero=>exact h _ _ _
   |succ c=>
    simp only [zhb]
    generalize Nat.ble p.size (c+1)=t
    cases t
    ·generalize p.isRow=t
     cases t
     ·exact zh
     ·exact h _ _ _
    ·exact ih
theorem yfw:
    (∀v:SV,∀(G:List SV→(β→Prop)→Prop),(∀l,Ret (G l))→Ret (fun k=>zcl v fun l=>G l k))∧
    (∀vs:List SV,∀(G:List SV→(β→Prop)→Prop),(∀l,Ret (G l))→Ret (fun k=>zfr vs fun l=>G l k)):=by
  have one: ∀v:SV,∀(G:List SV→(β→Prop)→Prop),(∀l,Ret (G l))→Ret (fun k=>zcl v fun l=>G l k):=fun v=>by
    refine SV.rec (motive_1:=fun v=> ∀(G:List SV→(β→Prop)→Prop),(∀l,Ret (G l))→Ret (fun k=>zcl v fun l=>G l k))
      (motive_2:=fun vs=> ∀(G:List SV→(β→Prop)→Prop),(∀l,Ret (G l))→Ret (fun k=>zfr vs fun l=>G l k))
      ?_ ?_ ?_ ?_ ?_ ?_ ?_ ?_ ?_ ?_ ?_ ?_ ?_ ?_ ?_ ?_ ?_ ?_ ?_ ?_ ?_ ?_ ?_ ?_ ?_ ?_ ?_ v
    case refine_22=>intro ps ih G h;exact ih G h
    case refine_26=>intro G h;exact h _
    case refine_27=>
      intro v vs ihv ihs G h
      exact ihv (fun a k=>zfr vs fun b=>zej a b fun l=>G l k) fun a=>ihs (fun b k=>zej a b fun l=>G l k) fun b=>zmc h
    all_goals (intros;rename_i h;exact h _)
  refine ⟨one,fun vs=>?_⟩
  induction vs with
  |nil=>intro G h;exact h _
  |cons v vs ih=>
   intro G h
   exact one v (fun a k=>zfr vs fun b=>zej a b fun l=>G l k) fun a=>ih (fun b k=>zej a b fun l=>G l k) fun b=>zmc h
theorem zft {v:SV} {G:List SV→(β→Prop)→Prop} (h: ∀l,Ret (G l)):Ret (fun k=>zcl v fun l=>G l k):=yfw.1 v G h
theorem zs3 {o:List (Nat×Nat)} {es:Nat} {G:Nat→Nat→(β→Prop)→Prop} (h: ∀i c,Ret (G i c)):Ret (fun k=>zln o es fun i c=>G i c k):=by
  match o with
  | []=>exact h _ _
  | [(i,e)]=>
    simp only [zln]
    generalize Nat.beq e es=t
    cases t
    ·exact zh
    ·exact h _ _
  | [(i,e),(c,1)]=>
    simp only [zln]
    generalize Nat.beq e es=t
    cases t
    ·exact zh
    ·exact h _ _
  | [(i,e),(c,0)]=>exact zh
  | [(i,e),(c,n+2)]=>exact zh
  |x ::(c,n) ::z ::r=>simp only [zln];exact zh
theorem yct {a:At} {G:SV→(β→Prop)→Prop} (h: ∀v,Ret (G v)):Ret (fun k=>atK a fun v=>G v k):=by
  cases a<;>exact h _
theorem yfe {as:List At} {G:List SV→(β→Prop)→Prop} (h: ∀v,Ret (G v)):Ret (fun k=>ybu as fun v=>G v k):=by
  induction as generalizing G with
  |nil=>exact h _
  |cons a as ih=>exact yct fun v=>ih (G:=fun vs=>G (v ::vs)) fun vs=>h _
theorem ya6 {α:Type} {l:List α} {n:Nat} {G:List α→(β→Prop)→Prop} (h: ∀v,Ret (G v)):Ret (fun k=>z0n l n fun v=>G v k):=by
  induction l generalizing n with
  |nil=>
   cases n with
   |zero=>exact h _
   |succ n=>exact zh
  |cons x xs ih=>
   cases n with
   |zero=>exact h _
   |succ n=>exact ih
theorem z4x {α:Type} {l:List α} {n:Nat} {G:List α→(β→Prop)→Prop} (h: ∀v,Ret (G v)):Ret (fun k=>zul l n fun v=>G v k):=by
  induction l generalizing n G with
  |nil=>
   cases n with
   |zero=>exact h _
   |succ n=>exact zh
  |cons x xs ih=>
   cases n with
   |zero=>exact h _
   |succ n=>exact ih (G:=fun l=>G (x ::l)) fun l=>h _
theorem ych {p:SV} {o:List (Nat×Nat)} {G:SV→(β→Prop)→Prop} (h: ∀v,Ret (G v)):Ret (fun k=>zn3 p o fun v=>G v k):=by
  cases p
  case tab n es f=>dsimp only [zn3];exact zs3 fun i c=>yt (zlg fun a=>yct h)
  all_goals first
    |exact zh
    |exact yt (h _)
    |(cases o<;>first|exact h _|exact zh)
theorem yc6 {p:SV} {o:List (Nat×Nat)} {m:Nat} {G:SV→(β→Prop)→Prop} (h: ∀v,Ret (G v)):Ret (fun k=>zvf p o m fun v=>G v k):=by
  cases p
  case tab n es f=>dsimp only [zvf];exact zs3 fun i c=>yt (ya6 fun r=>z4x fun as=>yfe (G:=fun vs=>G (.agg vs)) fun vs=>h _)
  all_goals first
    |exact zh
    |exact yt (h _)
theorem zm8 {ti:TyI} {ps:List SV} {j b:Nat} {o:List (Nat×Nat)} {G:SV→(β→Prop)→Prop} (h: ∀v,Ret (G v)):Ret (fun k=>zpv ti ps j b o fun v=>G v k):=by
  obtain ⟨d,sz,bytes,zero,eqOk⟩:=ti
  refine zkx (G:=fun _ r k=>match (generalizing:=false) d with
    | .arr .. | .struct .. =>match (generalizing:=false) o with
      | []=>zhp r sz fun a _=>zjz a fun v=>G v k
      |_=>match (generalizing:=false) r with|p ::_=>zvf p o sz fun v=>G v k| []=>False
    |_=>match (generalizing:=false) r with|p ::_=>zn3 p o (fun v=>G v k)| []=>False) fun a r=>?_
  have s:Ret (fun k=>match (generalizing:=false) r with|p ::_=>zn3 p o (fun v=>G v k)| []=>False):=by
    cases r
    ·exact zh
    ·exact ych h
  have t:Ret (fun k=>match (generalizing:=false) o with
   | []=>zhp r sz fun a _=>zjz a fun v=>G v k
   |_=>match (generalizing:=false) r with|p ::_=>zvf p o sz fun v=>G v k| []=>False):=by
    cases o with
    |nil=>exact z0q fun a _=>z1q h
    |cons x o=>
     cases r
     ·exact zh
     ·exact yc6 h
  cases d<;>first|exact s|exact t
theorem z9w {vs:List SV} {G:List UInt64→(β→Prop)→Prop} (h: ∀v,Ret (G v)):Ret (fun k=>zu5 vs fun v=>G v k):=by
  induction vs generalizing G with
  |nil=>exact h _
  |cons v vs ih=>cases v<;>first|exact zh|exact ih (G:=fun l=>G (_ ::l)) fun l=>h _
theorem z0u {v:SV} {G:At→(β→Prop)→Prop} (h: ∀v,Ret (G v)):Ret (fun k=>zsa v fun v=>G v k):=by
  cases v<;>first|exact zh|exact h _
theorem zu7 {vs:List SV} {G:List At→(β→Prop)→Prop} (h: ∀v,Ret (G v)):Ret (fun k=>zma vs fun v=>G v k):=by
  induction vs generalizing G with
  |nil=>exact h _
  |cons v vs ih=>exact z0u fun a=>ih (G:=fun as=>G (a ::as)) fun l=>h _
theorem zw4 {p:SV} {o:List (Nat×Nat)} {v:SV} {G:SV→(β→Prop)→Prop} (h: ∀v,Ret (G v)):Ret (fun k=>zfx p o v fun v=>G v k):=by
  have plain:Ret (fun k=>match (generalizing:=false) o with
    | []=>match (generalizing:=false) v.scalar with|true=>G v k|false=>False
    |_=>False):=by
    cases o with
    |nil=>
     generalize v.scalar=t
     cases t
     ·exact zh
     ·exact h _
    |cons x o=>exact zh
  cases p
  case tab n es f=>
    have one:Ret (fun k=>zsa v fun a=>zln o es fun i c=>Pre (i<n) (zkk (f i) c a fun r=>G (.tab n es (zhv f i r)) k)):=
      z0u fun a=>zs3 fun i c=>yt (yeg (G:=fun r=>G (.tab n es (zhv f i r))) fun r=>h _)
    cases v
    case agg vs=>
      refine zu7 (G:=fun as k=>zln o es fun i c=>match (generalizing:=false) c with
        |0=>Pre (i<n∧as.length=es) (G (.tab n es (zhv f i as)) k)
        |_=>False) fun as=>zs3 (G:=fun i c k=>match (generalizing:=false) c with
        |0=>Pre (i<n∧as.length=es) (G (.tab n es (zhv f i as)) k)
        |_=>False) fun i c=>?_
      cases c
      ·exact yt (h _)
      ·exact zh
    all_goals exact one
  case arr8 n l=>cases v<;>first|exact zh|exact yt (h _)
  case arr32 n l=>cases v<;>first|exact zh|exact yt (h _)
  case arr64 n l=>cases v<;>first|exact zh|exact yt (h _)|exact z9w fun x=>yt (h _)
  case arri n l=>cases v<;>first|exact zh|exact yt (h _)
  case arrs n l=>cases v<;>first|exact zh|exact yt (h _)
  case agg ps=>exact zh
  case tup ps=>exact zh
  all_goals (cases o<;>first|exact zh|(dsimp only [zfx];exact plain))
theorem zpu {ti:TyI} {ps:List SV} {j b:Nat} {o:List (Nat×Nat)} {v:SV} {G:List SV→(β→Prop)→Prop} (h: ∀v,Ret (G v)):Ret (fun k=>zfv ti ps j b o v fun v=>G v k):=by
  unfold zfv
  refine zkx (G:=fun a r k=>match (generalizing:=false) o with
    | []=>match (generalizing:=false) v.many with
      |true=>zhp r ti.sz fun _ r'=>zcl v fun fs=>match (generalizing:=false) Nat.beq (yc fs) ti.sz with|true=>(match (generalizing:=false) zjm fs with|true=>zej fs r' fun q=>zej a q fun v=>G v k|false=>False)|false=>False
      |false=>match (generalizing:=false) Nat.beq ti.sz 1 with
       |true=>match (generalizing:=false) r with|p ::r'=>zfx p [] v fun p'=>zej a (p' ::r') fun v=>G v k| []=>False
       |false=>False
    |_=>match (generalizing:=false) Nat.beq v.size ti.sz with
     |true=>match (generalizing:=false) r with|p ::r'=>zfx p o v fun p'=>zej a (p' ::r') fun v=>G v k| []=>False
     |false=>False) fun a r=>?_
  cases o with
  |nil=>
   generalize v.many=t
   cases t
   ·generalize Nat.beq ti.sz 1=t
    cases t
    ·exact zh
    ·cases r with
     |nil=>exact zh
     |cons p r'=>exact zw4 fun p'=>zmc h
   ·refine z0q fun _ r'=>zft (G:=fun fs k=>match (generalizing:=false) Nat.beq (yc fs) ti.sz with|true=>(match (generalizing:=false) zjm fs with|true=>zej fs r' fun q=>zej a q fun v=>G v k|false=>False)|false=>False) fun fs=>?_
    generalize Nat.beq (yc fs) ti.sz=t
    cases t
    ·exact zh
    ·generalize zjm fs=t
     cases t
     ·exact zh
     ·exact zmc fun q=>zmc h
  |cons x o=>
   dsimp only
   generalize Nat.beq v.size ti.sz=t
   cases t
   ·exact zh
   ·cases r with
    |nil=>exact zh
    |cons p r'=>exact zw4 fun p'=>zmc h
theorem yd3 {op:BinOp} {a b:Int} {G:SV→(β→Prop)→Prop} (h: ∀v,Ret (G v)):Ret (fun k=>yb7 op a b fun v=>G v k):=by
  cases op<;>first|exact zh|exact h _|exact yt (h _)
theorem yii {op:BinOp} {a b:UInt8} {G:SV→(β→Prop)→Prop} (h: ∀v,Ret (G v)):Ret (fun k=>u8K op a b fun v=>G v k):=by
  cases op<;>first|exact zh|exact h _|exact yt (h _)
theorem ydz {op:BinOp} {a b:UInt16} {G:SV→(β→Prop)→Prop} (h: ∀v,Ret (G v)):Ret (fun k=>yaa op a b fun v=>G v k):=by
  cases op<;>first|exact zh|exact h _|exact yt (h _)
theorem yc5 {op:BinOp} {a b:UInt32} {G:SV→(β→Prop)→Prop} (h: ∀v,Ret (G v)):Ret (fun k=>yb0 op a b fun v=>G v k):=by
  cases op<;>first|exact zh|exact h _|exact yt (h _)
theorem ydu {op:BinOp} {a b:UInt64} {G:SV→(β→Prop)→Prop} (h: ∀v,Ret (G v)):Ret (fun k=>yba op a b fun v=>G v k):=by
  cases op<;>first|exact zh|exact h _|exact yt (h _)
theorem yeb {op:BinOp} {a b:List UInt8} {G:SV→(β→Prop)→Prop} (h: ∀v,Ret (G v)):Ret (fun k=>z92 op a b fun v=>G v k):=by
  cases op<;>first|exact zh|exact h _|exact yt (h _)
theorem ydy {x y:SV} {G:SV→(β→Prop)→Prop} (h: ∀v,Ret (G v)):Ret (fun k=>ya2 x y fun v=>G v k):=by
  cases x<;>first
    |exact ztx fun n=>yt (h _)
    |exact ztx fun n=>zh
theorem ye3 {x y:SV} {G:SV→(β→Prop)→Prop} (h: ∀v,Ret (G v)):Ret (fun k=>ya3 x y fun v=>G v k):=by
  cases x<;>first
    |exact ztx fun n=>yt (h _)
    |exact ztx fun n=>zh
theorem yft {op:BinOp} {x y:SV} {G:SV→(β→Prop)→Prop} (h: ∀v,Ret (G v)):Ret (fun k=>z3a op x y fun v=>G v k):=by
  cases op
  case shl=>exact ydy h
  case shr=>exact ye3 h
  all_goals
    cases x<;>first
      |exact zh
      |(cases y<;>dsimp only [z3a]<;>first|exact zh|exact yd3 h|exact yii h|exact ydz h|exact yc5 h|exact ydu h|exact yeb h)
theorem yhl {op:UnOp} {x:SV} {G:SV→(β→Prop)→Prop} (h: ∀v,Ret (G v)):Ret (fun k=>unK op x fun v=>G v k):=by
  cases op<;>cases x<;>first|exact zh|exact h _|exact yt (h _)
theorem zzq {d:IntKind} {x:SV} {G:SV→(β→Prop)→Prop} (h: ∀v,Ret (G v)):Ret (fun k=>zg0 d x fun v=>G v k):=by
  cases d<;>cases x<;>first|exact zh|exact h _|exact yt (h _)
end
end Go.Sym

namespace Go.Sym
section
variable {β:Type} {Γ:Ctx}
theorem zn1 {hp:List Blk} {n:Nat} {G:TypeId→List SV→(β→Prop)→Prop} (h: ∀a b,Ret (G a b)):Ret (fun k=>zeh hp n fun a b=>G a b k):=by
  refine zlg (G:=fun (b:Blk) k=>match (generalizing:=false) b with| .mk el ps=>G el ps k| .dead=>False) fun b=>?_
  cases b
  ·exact h _ _
  ·exact zh
theorem ydb {hp:List Blk} {n j b:Nat} {G:SV→(β→Prop)→Prop} (h: ∀v,Ret (G v)):Ret (fun k=>z73 hp n j b fun v=>G v k):=by
  refine zn1 fun _ ps=>zkx (G:=fun _ r k=>match (generalizing:=false) r with|p ::_=>G p k| []=>False) fun _ r=>?_
  cases r
  ·exact zh
  ·exact h _
theorem z4d {hp:List Blk} {v:SV} {G:List UInt8→(β→Prop)→Prop} (h: ∀v,Ret (G v)):Ret (fun k=>zjr hp v fun v=>G v k):=by
  cases v
  case sl k j b o n c=>
    refine ydb (G:=fun p k=>match (generalizing:=false) p with
      | .arr8 _ l=>Pre (off o+n≤l.length) (G ((l.drop (off o)).take n) k)
      |_=>False) fun p=>?_
    cases p<;>first|exact zh|exact yt (h _)
  all_goals first|exact zh|exact h _
theorem zpy {fi:TyI} {ps:List SV} {c:Nat} {G:SV→(β→Prop)→Prop} (h: ∀v,Ret (G v)):Ret (fun k=>zhd fi ps c fun v=>G v k):=by
  cases c with
  |zero=>dsimp only [zhd];exact zm8 h
  |succ c=>dsimp only [zhd];exact znf fun j b o=>zm8 h
theorem yj2 (f:Nat):(∀(t:TypeId) (x y:SV) (G:Bool→(β→Prop)→Prop),(∀v,Ret (G v))→Ret (fun k=>eqK Γ f t x y fun v=>G v k))∧
    (∀(fs:List (Nat×TypeId)) (xs ys:List SV) (G:Bool→(β→Prop)→Prop),(∀v,Ret (G v))→Ret (fun k=>znq Γ f fs xs ys fun v=>G v k)):=by
  induction f with
  |zero=>exact ⟨fun t x y G h=>by simp only [eqK];exact zh,fun fs xs ys G h=>by simp only [znq];exact zh⟩
  |succ f ih=>
   refine ⟨fun t x y G h=>?_,fun fs xs ys G h=>?_⟩
   ·intro k hk
    simp only [eqK] at hk ⊢
    revert k
    refine yp (G:=fun ti k=>_) fun ti=>?_
    obtain ⟨d,sz,bytes,zero,eqOk⟩:=ti
    dsimp only
    cases d
    case int kd=>cases kd<;>first|exact zh|(cases x<;>first|exact zh|(cases y<;>first|exact zh|exact h _))
    case arr n e=>
      refine yp (G:=fun ei k=>_) fun ei=>?_
      obtain ⟨d,sz,bytes,zero,eqOk⟩:=ei
      dsimp only
      cases d
      case int kd=>
        cases kd<;>first
          |exact zh
          |(cases x<;>first
             |exact zh
             |(cases y<;>first
                |exact zh
                |(rename_i m a m' b
                  dsimp only
                  generalize Nat.beq m n=t
                  generalize Nat.beq m' n=t'
                  cases t
                  ·exact zh
                  ·cases t'
                   ·exact zh
                   ·exact h _)))
      all_goals exact zh
    case struct fs=>
      cases eqOk
      ·exact zh
      ·dsimp only
       generalize x.many=t
       generalize y.many=t'
       cases t
       ·exact zh
       ·cases t'
        ·exact zh
        ·exact zft fun xs=>zft fun ys=>ih.2 _ _ _ _ h
    all_goals first|exact zh|(cases x<;>first|exact zh|(cases y<;>first|exact zh|exact h _))
   ·cases fs with
    |nil=>simp only [znq];exact h _
    |cons p fs=>
     obtain ⟨c,t⟩:=p
     simp only [znq]
     exact yp fun ti=>zpy fun a=>zpy fun b=>ih.1 _ _ _ (fun r k=>znq Γ f fs xs ys fun r'=>G (r&&r') k) fun r=>ih.2 _ _ _ (fun r' k=>G (r&&r') k) fun r'=>h _
theorem ycx {f:Nat} {t:TypeId} {x y:SV} {G:Bool→(β→Prop)→Prop} (h: ∀v,Ret (G v)):Ret (fun k=>eqK Γ f t x y fun v=>G v k):=(yj2 f).1 t x y G h
theorem z99 {op:BinOp} {t:TypeId} {x y:SV} {G:SV→(β→Prop)→Prop} (h: ∀v,Ret (G v)):Ret (fun k=>z0x Γ op t x y fun v=>G v k):=by
  have go: ∀(g:Bool→SV),Ret (fun k=>match (generalizing:=false) x.many with
   |true=>yn Γ.ty t fun ti=>match (generalizing:=false) ti.eqOk with|true=>eqK Γ 60 t x y (fun r=>G (g r) k)|false=>False
   |false=>eqK Γ 60 t x y (fun r=>G (g r) k)):=fun g=>by
    generalize x.many=m
    cases m
    ·exact ycx (G:=fun r=>G (g r)) fun r=>h _
    ·refine yp (G:=fun (ti:TyI) k=>match (generalizing:=false) ti.eqOk with|true=>eqK Γ 60 t x y (fun r=>G (g r) k)|false=>False) fun ti=>?_
     generalize ti.eqOk=q
     cases q
     ·exact zh
     ·exact ycx (G:=fun r=>G (g r)) fun r=>h _
  have big:Ret (fun k=>match (generalizing:=false) op with
    | .eql=>match (generalizing:=false) x.many with
      |true=>yn Γ.ty t fun ti=>match (generalizing:=false) ti.eqOk with|true=>eqK Γ 60 t x y (fun r=>G (.bool r) k)|false=>False
      |false=>eqK Γ 60 t x y (fun r=>G (.bool r) k)
    | .neq=>match (generalizing:=false) x.many with
      |true=>yn Γ.ty t fun ti=>match (generalizing:=false) ti.eqOk with|true=>eqK Γ 60 t x y (fun r=>G (.bool (!r)) k)|false=>False
      |false=>eqK Γ 60 t x y (fun r=>G (.bool (!r)) k)
    |_=>False):=by
    cases op<;>first|exact zh|exact go (fun r=> .bool r)|exact go (fun r=> .bool (!r))
  cases x<;>first|exact yft h|exact big
theorem z5t {l:List UInt8} {lo hi:Option Nat} {G:SV→(β→Prop)→Prop} (h: ∀v,Ret (G v)):Ret (fun k=>zzv l lo hi fun v=>G v k):=by
  cases lo<;>cases hi<;>first|exact h _|exact yt (h _)
theorem zw5 {k j b:Nat} {o:List (Nat×Nat)} {n c es:Nat} {lo hi mx:Option Nat} {G:SV→(β→Prop)→Prop} (h: ∀v,Ret (G v)):Ret (fun K=>zpe k j b o n c es lo hi mx fun v=>G v K):=by
  cases lo<;>cases hi<;>cases mx<;>first|exact zh|exact h _|exact yt (h _)|exact yt (yt (h _))
theorem z7z {t:TypeId} {x:SV} {lo hi mx:Option Nat} {G:SV→(β→Prop)→Prop} (h: ∀v,Ret (G v)):Ret (fun K=>zsv Γ t x lo hi mx fun v=>G v K):=by
  cases x
  case str l=>
    refine yp (G:=fun ti K=>_) fun ti=>?_
    obtain ⟨d,sz,bytes,zero,eqOk⟩:=ti
    cases d<;>first|exact zh|(cases mx<;>first|exact zh|exact z5t h)
  case nilsl=>
    refine yp (G:=fun ti K=>_) fun ti=>?_
    obtain ⟨d,sz,bytes,zero,eqOk⟩:=ti
    cases d<;>first|exact zh|(refine yp (G:=fun ti K=>_) fun ti=>?_;cases hi<;>cases mx<;>first|exact zh|exact yt (h _))
  case sl k j b o n c=>
    refine yp (G:=fun ti K=>_) fun ti=>?_
    obtain ⟨d,sz,bytes,zero,eqOk⟩:=ti
    cases d<;>first|exact zh|exact yp fun ei=>zw5 h
  case ptr k j b o=>
    refine yp (G:=fun ti K=>_) fun ti=>?_
    obtain ⟨d,sz,bytes,zero,eqOk⟩:=ti
    cases d<;>first|exact zh|exact yp fun ei=>zw5 h
  all_goals exact zh
theorem ye1 {z:SV} {n:Nat} {G:List SV→(β→Prop)→Prop} (h: ∀v,Ret (G v)):Ret (fun K=>zyt z n fun v=>G v K):=by
  induction n generalizing G with
  |zero=>exact h _
  |succ n ih=>exact ih (G:=fun l=>G (z ::l)) fun l=>h _
theorem zz6 {z:SV} {n:Nat} {G:List SV→(β→Prop)→Prop} (h: ∀v,Ret (G v)):Ret (fun K=>zxe z n fun v=>G v K):=by
  cases z
  case arr8 m l=>cases l<;>first|exact zh|exact yt (h _)
  case agg ps=>
    refine zu7 (G:=fun as K=>match (generalizing:=false) as with| []=>False|a ::r=>G [.tab n (r.length+1) fun _=>a ::r] K) fun as=>?_
    cases as
    ·exact zh
    ·exact h _
  all_goals first|exact zh|exact h _|exact ye1 h
theorem zy7 {ei:TyI} {ps:List SV} {i:Nat} {v:SV} {G:List SV→(β→Prop)→Prop} (h: ∀v,Ret (G v)):Ret (fun K=>zhl ei ps i v fun v=>G v K):=by
  have w:Ret (fun K=>zhb ps 0 0 (i*ei.sz) fun j b o=>zfv ei ps j b o v fun v=>G v K):=znf fun j b o=>zpu h
  match ps,w with
  | [],w=>exact w
  | [p],w=>
    dsimp only [zhl]
    generalize p.isRow=t
    cases t
    ·exact w
    ·exact zpu h
  |p ::q ::r,w=>exact w
theorem zmq {ei:TyI} {ps:List SV} {g:List (Nat×SV)} {G:List SV→(β→Prop)→Prop} (h: ∀v,Ret (G v)):Ret (fun K=>zfi ei ps g fun v=>G v K):=by
  induction g generalizing ps with
  |nil=>exact h _
  |cons p r ih=>obtain ⟨i,v⟩:=p;exact zy7 fun ps'=>ih
theorem zua {fs:List (Nat×TypeId)} {ps:List SV} {g:List (Nat×SV)} {G:List SV→(β→Prop)→Prop} (h: ∀v,Ret (G v)):Ret (fun K=>zd6 Γ fs ps g fun v=>G v K):=by
  induction g generalizing ps with
  |nil=>exact h _
  |cons p r ih=>obtain ⟨i,v⟩:=p;exact zlg fun ft=>yp fun fi=>znf fun j b o=>zpu fun ps'=>ih
theorem z6g {fs:List (Nat×TypeId)} {F:(β→Prop)→Prop} (h:Ret F):Ret (fun K=>znr Γ fs (F K)):=by
  induction fs with
  |nil=>exact h
  |cons p r ih=>obtain ⟨i,v⟩:=p;exact yp fun _=>ih
theorem z8p {t:TypeId} {g:List (Nat×SV)} {G:SV→(β→Prop)→Prop} (h: ∀v,Ret (G v)):Ret (fun K=>zuh Γ t g fun v=>G v K):=by
  refine yp (G:=fun ti K=>_) fun ti=>?_
  obtain ⟨d,sz,bytes,zero,eqOk⟩:=ti
  dsimp only
  generalize zero.many=m
  cases m
  ·exact zh
  ·refine zft (G:=fun zs K=>_) fun zs=>?_
   cases d
   case struct fs=>exact z6g (zua (G:=fun ps=>G (.agg ps)) fun ps=>h _)
   case arr n e=>exact yp fun ei=>zmq fun ps=>z1q h
   all_goals exact zh
theorem ycn (op:Op) (tm:List (Nat×SV)):Ret (fun k=>x0 Γ op tm k):=by
  have hk: ∀v:SV,Ret (fun k:SV→Prop=>k v):=fun v=>z69 v
  cases op
  case move x=>exact zay (G:=fun v k=>k v) hk
  case assign x=>exact zay (G:=fun v k=>k v) hk
  case pick c x y=>
    refine zay (G:=fun cv K=>_) fun cv=>zay (G:=fun av K=>_) fun av=>zay (G:=fun bv K=>_) fun bv=>?_
    cases cv<;>first|exact zh|exact z4w (hk _) (hk _)
  case build t ps=>exact zrm fun g=>z8p hk
  case nilCheck x=>
    refine zay (G:=fun v K=>_) fun v=>?_
    cases v<;>first|exact zh|exact hk _
  case binOp op t x y t'=>exact zay fun a=>zay fun b=>z99 hk
  case unOp op t x=>exact zay fun a=>yhl hk
  case slice t x lo hi mx=>exact zay fun v=>zl7 fun lo=>zl7 fun hi=>zl7 fun mx=>z7z hk
  case field s x f=>
    refine yp (G:=fun ti K=>_) fun ti=>?_
    obtain ⟨d,sz,bytes,zero,eqOk⟩:=ti
    cases d
    case struct fs=>
      refine zlg (G:=fun ft K=>_) fun ft=>yp (G:=fun fi K=>_) fun fi=>zay (G:=fun v K=>_) fun v=>?_
      try dsimp only
      generalize v.many=m
      cases m
      ·exact zh
      ·exact zft fun ps=>zpy hk
    all_goals exact zh
  case indexAddr t x i=>
    refine yp (G:=fun ti K=>_) fun ti=>zay (G:=fun v K=>_) fun v=>zay (G:=fun iv K=>_) fun iv=>zp9 (G:=fun ix K=>_) fun ix=>?_
    obtain ⟨d,sz,bytes,zero,eqOk⟩:=ti
    cases d
    case arr n e=>
      refine yp (G:=fun ei K=>_) fun ei=>?_
      cases v<;>first|exact zh|exact yt (hk _)
    case sl e=>
      refine yp (G:=fun ei K=>_) fun ei=>?_
      cases v<;>first|exact zh|exact yt (hk _)
    all_goals exact zh
  case index t x i=>
    refine yp (G:=fun ti K=>_) fun ti=>zay (G:=fun v K=>_) fun v=>zay (G:=fun iv K=>_) fun iv=>zp9 (G:=fun ix K=>_) fun ix=>?_
    obtain ⟨d,sz,bytes,zero,eqOk⟩:=ti
    cases v
    case str l=>cases d<;>first|exact zh|exact yt (hk _)
    all_goals (cases d<;>first|exact zh|exact yp fun ei=>zh|exact yp fun ei=>yt (zm8 hk))
  case makeFunc fn first caps=>
    refine z5g (G:=fun vs K=>_) fun vs=>?_
    cases fn
    case func f=>
      dsimp only
      generalize first.toList=fl
      cases fl<;>first|exact zh|exact hk _
    all_goals exact zh
  case extract x i=>
    refine zay (G:=fun v K=>_) fun v=>?_
    cases v<;>first|exact zh|exact zlg hk
  case convert s d x=>
    refine yp (G:=fun si K=>_) fun si=>yp (G:=fun di K=>_) fun di=>?_
    obtain ⟨d,sz,bytes,zero,eqOk⟩:=di
    cases d<;>first|exact zh|exact zay fun v=>zzq hk
  case call c=>
    obtain ⟨callee,args,argTypes⟩:=c
    refine z5g (G:=fun vs K=>_) fun vs=>?_
    dsimp only
    cases callee
    case builtin b=>
      cases b
      case len=>
        dsimp only
        generalize argTypes.toList=ats
        match ats with
        | []=>exact zh
        | [t]=>
          refine yp (G:=fun ti K=>_) fun ti=>?_
          obtain ⟨d,sz,bytes,zero,eqOk⟩:=ti
          dsimp only
          cases d
          case str=>
            match vs with
            | []=>exact zh
            | [v]=>cases v<;>first|exact zh|exact hk _
            |v ::u ::r=>cases v<;>exact zh
          case sl e=>
            match vs with
            | []=>exact zh
            | [v]=>cases v<;>first|exact zh|exact hk _
            |v ::u ::r=>cases v<;>exact zh
          case arr n e=>
            match vs with
            | []=>exact zh
            | [v]=>exact hk _
            |v ::u ::r=>exact zh
          all_goals exact zh
        |_ ::_ ::_=>exact zh
      case min=>
        match vs with
        | []=>exact zh
        | [v]=>cases v<;>exact zh
        | [v,u]=>cases v<;>first|exact zh|(cases u<;>first|exact zh|exact hk _)
        | [v,u,x]=>cases v<;>first|exact zh|(cases u<;>first|exact zh|(cases x<;>first|exact zh|exact hk _))
        |v ::u ::x ::y ::r=>cases v<;>first|exact zh|(cases u<;>first|exact zh|(cases x<;>exact zh))
      case max=>
        match vs with
        | []=>exact zh
        | [v]=>cases v<;>exact zh
        | [v,u]=>cases v<;>first|exact zh|(cases u<;>first|exact zh|exact hk _)
        | [v,u,x]=>cases v<;>first|exact zh|(cases u<;>first|exact zh|(cases x<;>first|exact zh|exact hk _))
        |v ::u ::x ::y ::r=>cases v<;>first|exact zh|(cases u<;>first|exact zh|(cases x<;>exact zh))
      all_goals exact zh
    all_goals exact zh
  all_goals exact zh
theorem z0t (op:Op) (tm:List (Nat×SV)) (hp:List Blk):Ret (fun k=>zff Γ op tm hp k):=by
  have hk: ∀v:SV,Ret (fun k:SV→Prop=>k v):=fun v=>z69 v
  cases op
  case load t x=>
    refine yp (G:=fun ti K=>_) fun ti=>zay (G:=fun v K=>_) fun v=>?_
    cases v<;>first|exact zh|exact zn1 fun _ ps=>zm8 hk|exact z9o
  case fieldAddr s x f=>
    refine yp (G:=fun ti K=>_) fun ti=>?_
    obtain ⟨d,sz,bytes,zero,eqOk⟩:=ti
    cases d
    case struct fs=>
      refine zlg (G:=fun ft K=>_) fun ft=>yp (G:=fun fi K=>_) fun fi=>?_
      obtain ⟨d,sz,bytes,zero,eqOk⟩:=fi
      obtain ⟨c,t⟩:=ft
      cases sz
      ·exact zh
      ·refine zay (G:=fun v K=>_) fun v=>?_
       cases v
       case xptr A=>exact hk _
       case ptr k j b oo=>
         cases c
         ·exact hk _
         ·cases oo
          ·exact zn1 fun _ ps=>zkx fun _ r=>znf (G:=fun j' b' o' (K:SV→Prop)=>K (SV.ptr k j' b' o')) fun _ _ _=>hk _
          ·exact hk _
       all_goals exact zh
    all_goals exact zh
  case convert s d x=>
    refine yp (G:=fun si K=>_) fun si=>yp (G:=fun di K=>_) fun di=>?_
    obtain ⟨ds,szs,bytess,zeros,eqOks⟩:=si
    obtain ⟨d,sz,bytes,zero,eqOk⟩:=di
    cases d
    case str=>
      refine zay (G:=fun v K=>_) fun v=>?_
      cases v
      case str l=>exact hk _
      case nilsl=>
        cases ds
        case sl e=>
          refine yp (G:=fun ei K=>_) fun ei=>?_
          obtain ⟨d,sz,bytes,zero,eqOk⟩:=ei
          cases d
          case int kd=>cases kd<;>first|exact zh|exact hk _
          all_goals exact zh
        all_goals exact zh
      case sl k j b o n c=>
        cases ds
        case sl e=>
          refine yp (G:=fun ei K=>_) fun ei=>?_
          obtain ⟨d,sz,bytes,zero,eqOk⟩:=ei
          cases d
          case int kd=>cases kd<;>first|exact zh|exact z4d (G:=fun l (K:SV→Prop)=>K (SV.str l)) fun l=>hk _
          all_goals exact zh
        all_goals exact zh
      all_goals exact zh
    all_goals exact zh
  all_goals exact zh
theorem z62 (op:Op) (tm:List (Nat×SV)) (m:Nat):Ret (fun k:SV×Blk→Prop=>zcp Γ op tm m fun v b=>k (v,b)):=by
  have hk: ∀v b,Ret (fun k:SV×Blk→Prop=>k (v,b)):=fun v b=>z69 (v,b)
  cases op
  case alloc t=>exact yp fun ti=>zft fun ps=>hk _ _
  case box t x=>exact zay fun v=>zft fun ps=>hk _ _
  case buildSlice t n ps=>
    refine zrm (G:=fun g K=>_) fun g=>yp (G:=fun ti K=>_) fun ti=>?_
    obtain ⟨d,sz,bytes,zero,eqOk⟩:=ti
    cases d<;>first|exact zh|exact yp fun ei=>yt (zz6 fun zs=>zmq fun ps=>hk _ _)
  case makeSlice t x y=>
    refine zay (G:=fun lv K=>_) fun lv=>zay (G:=fun cv K=>_) fun cv=>zp9 (G:=fun l K=>_) fun l=>zp9 (G:=fun c K=>_) fun c=>yp (G:=fun ti K=>_) fun ti=>?_
    obtain ⟨d,sz,bytes,zero,eqOk⟩:=ti
    cases d<;>first|exact zh|exact yp fun ei=>yt (zz6 fun zs=>hk _ _)
  all_goals exact zh
end
end Go.Sym

namespace Go.Sym
structure PStep where
  i:Nat
  loose:List Nat
inductive LateK where
  |pure|read (M:List Nat)|maker (b:Nat)
structure Late where
  i:Nat
  o:Oper
  v:SV
  k:LateK
def zqu (v u:SV) (p:Prop):Prop:=v=u∧p
attribute [irreducible] zqu
theorem zb {v:SV} {p:Prop} (h:p):zqu v v p:=by unfold zqu;exact ⟨rfl,h⟩
theorem zmb {v u:SV} {p:Prop} (h:zqu v u p):v=u∧p:=by unfold zqu at h;exact h
def zcj (L:List Nat):List Late→(List Nat→Prop)→Prop
  | [],k=>k []
  |x ::xs,k=>match x.k with
   | .maker b=>match zbo L x.i with|true=>zcj L xs fun M=>k (b ::M)|false=>zcj L xs k
   |_=>zcj L xs k
def zmo:List Nat→List Blk→(List Blk→Prop)→Prop
  | [],hp,k=>k hp
  |m ::M,hp,k=>zkk hp m .dead fun hp'=>zmo M hp' k
def zge (hp:List Blk):List Nat→List Blk→(List Blk→Prop)→Prop
  | [],hp',k=>k hp'
  |m ::M,hp',k=>zfb hp m fun b=>zkk hp' m b fun hp''=>zge hp M hp'' k
def zwl (M:List Nat):List Nat→Bool
  | []=>true
  |x ::xs=>match zbo M x with|true=>false|false=>zwl M xs
def zfj (M:List Nat) (v:SV) (p:Prop):Prop:=
  match M with
  | []=>p
  |_ ::_=>match zwl M v.ks with|true=>p|false=>False
def zed (M:List Nat):List Blk→Prop→Prop
  | [],p=>p
  |b ::bs,p=>match M with
   | []=>p
   |_ ::_=>match b with
    | .dead=>zed M bs p
    | .mk _ ps=>match zwl M (ksL ps) with|true=>zed M bs p|false=>False
def reK (Γ:Ctx) (tm:List (Nat×SV)) (hp:List Blk) (L:List Nat):List Late→Prop→Prop
  | [],p=>p
  |x ::xs,p=>match x.k with
   | .read M=>match zbo L x.i with
     |true=>zmo M hp fun hm=>zff Γ x.o.op tm hm fun v=>zqu v x.v (reK Γ tm hp L xs p)
     |false=>reK Γ tm hp L xs p
   |_=>reK Γ tm hp L xs p
def addM (b:Nat):List Late→List Late
  | []=> []
  |x ::xs=>(match x.k with| .read M=>⟨x.i,x.o,x.v,.read (b ::M)⟩|_=>x) ::addM b xs
def zlv (all:List Oper) (o:Oper) (tm:List (Nat×SV)) (yes no:Prop):Prop:=
  match o.guard with
  |none=>yes
  |some (j,want)=>zfb all j fun g=>match g.dst with
   |some d=>yn tm d fun v=>match v with
    | .bool t=>zx (t==want) yes no
    | .tup _=>no
    |_=>False
   |none=>False
noncomputable def ze3 (Γ:Ctx) (all:List Oper) (steps:List PStep):List Late→List (Nat×SV)→List Blk→(St→Prop)→Prop:=
  List.rec (motive:=fun _=>List Late→List (Nat×SV)→List Blk→(St→Prop)→Prop) (fun _ tm hp K=>K ⟨tm,hp⟩) (fun s _ ih late tm hp K=>zfb all s.i fun o=>zlv all o tm
    (match zbp Γ o.op with
      | .pure=>x0 Γ o.op tm fun v=>zcj s.loose late fun M=>zfj M v (zd4 Γ.nt tm hp o.dst v fun st=>match st with|⟨tm',hp'⟩=>ih (⟨s.i,o,v,.pure⟩ ::late) tm' hp' K)
      | .read=>zcj s.loose late fun M=>zmo M hp fun hm=>zff Γ o.op tm hm fun v=>zfj M v (zd4 Γ.nt tm hp o.dst v fun st=>match st with|⟨tm',hp'⟩=>ih (⟨s.i,o,v,.read M⟩ ::late) tm' hp' K)
      | .maker=>zcj s.loose late fun M=>zk0 hp fun n=>zcp Γ o.op tm n fun v b=>match b with
        | .mk el ps=>zfj M (.agg ps) (zgj hp (.mk el ps) fun hp1=>zd4 Γ.nt tm hp1 o.dst v fun st=>match st with|⟨tm',hp'⟩=>ih (⟨s.i,o,v,.maker n⟩ ::addM n late) tm' hp' K)
        | .dead=>False
      | .anchor=>zcj s.loose late fun M=>zmo M hp fun hm=>zcf Γ o.op tm hm
          (fun v hp1=>zfj M v (zed M hp1 (zge hp M hp1 fun hp2=>zd4 Γ.nt tm hp2 o.dst v fun st=>match st with|⟨tm',hp'⟩=>reK Γ tm' hp' s.loose late (ih late tm' hp' K))))
          (fun hp1=>zed M hp1 (zge hp M hp1 fun hp2=>match o.dst with
            |none=>reK Γ tm hp2 s.loose late (ih late tm hp2 K)
            |some _=>False)))
    (zd4 Γ.nt tm hp o.dst (.tup []) fun st=>match st with|⟨tm',hp'⟩=>ih (⟨s.i,o,.tup [],.pure⟩ ::late) tm' hp' K)) steps
theorem z10 (Γ:Ctx) (all:List Oper) (s:PStep) (ss:List PStep) (late:List Late) (tm:List (Nat×SV)) (hp:List Blk) (K:St→Prop):ze3 Γ all (s ::ss) late tm hp K=zfb all s.i fun o=>zlv all o tm
    (match zbp Γ o.op with
      | .pure=>x0 Γ o.op tm fun v=>zcj s.loose late fun M=>zfj M v (zd4 Γ.nt tm hp o.dst v fun st=>match st with|⟨tm',hp'⟩=>ze3 Γ all ss (⟨s.i,o,v,.pure⟩ ::late) tm' hp' K)
      | .read=>zcj s.loose late fun M=>zmo M hp fun hm=>zff Γ o.op tm hm fun v=>zfj M v (zd4 Γ.nt tm hp o.dst v fun st=>match st with|⟨tm',hp'⟩=>ze3 Γ all ss (⟨s.i,o,v,.read M⟩ ::late) tm' hp' K)
      | .maker=>zcj s.loose late fun M=>zk0 hp fun n=>zcp Γ o.op tm n fun v b=>match b with
        | .mk el ps=>zfj M (.agg ps) (zgj hp (.mk el ps) fun hp1=>zd4 Γ.nt tm hp1 o.dst v fun st=>match st with|⟨tm',hp'⟩=>ze3 Γ all ss (⟨s.i,o,v,.maker n⟩ ::addM n late) tm' hp' K)
        | .dead=>False
      | .anchor=>zcj s.loose late fun M=>zmo M hp fun hm=>zcf Γ o.op tm hm
          (fun v hp1=>zfj M v (zed M hp1 (zge hp M hp1 fun hp2=>zd4 Γ.nt tm hp2 o.dst v fun st=>match st with|⟨tm',hp'⟩=>reK Γ tm' hp' s.loose late (ze3 Γ all ss late tm' hp' K))))
          (fun hp1=>zed M hp1 (zge hp M hp1 fun hp2=>match o.dst with
            |none=>reK Γ tm hp2 s.loose late (ze3 Γ all ss late tm hp2 K)
            |some _=>False)))
    (zd4 Γ.nt tm hp o.dst (.tup []) fun st=>match st with|⟨tm',hp'⟩=>ze3 Γ all ss (⟨s.i,o,.tup [],.pure⟩ ::late) tm' hp' K):=rfl
def x4 (o:Oper):List Nat:=(o.after.toList.filter (Region.binds .any)).map (·.on)
abbrev Table:=List (Nat×Nat)
def zr2 (T:Table) (i:Nat):Nat:=
  match T with
  | []=>0
  |(j,m) ::r=>if Nat.beq j i then m else zr2 r i
def zfg (T:Table):List Nat→Nat
  | []=>0
  |e ::es=>(Nat.lor (Nat.lor (Nat.shiftLeft 1 e) (zr2 T e)) (zfg T es))
def ztg (ops:Array Oper) (s:PStep) (o:Oper) (m:Nat):List PStep→Bool
  | []=>true
  |x ::xs=>(match zbo s.loose x.i with
     |true=>match ops[x.i]? with|some y=>y.apart ops o|none=>false
     |false=>Nat.testBit m x.i)&&ztg ops s o m xs
def zli (ops:Array Oper) (Γ:Ctx) (L:List Nat):List PStep→List (Option Nat)→Bool
  | [],_=>true
  |x ::xs,ds=>(match ops[x.i]? with
     |some y=>(match zbp Γ y.op,zbo L x.i with
      | .read,true=>(y.dst ::ds).all fun d=>match d with|some d=>!(y.looksAt ops).contains d|none=>true
      |_,_=>true)&&zli ops Γ L xs (y.dst ::ds)
     |none=>false)
def zs8 (i:Nat):List PStep→Bool
  | []=>false
  |x ::xs=>Nat.beq x.i i||zs8 i xs
def ze8 (ops:Array Oper) (Γ:Ctx):List PStep→List PStep→Table→Bool
  |_,[],_=>true
  |pre,s ::ss,T=>match ops[s.i]? with
   |none=>false
   |some o=>
    let m:=zfg T (x4 o)
    !zs8 s.i pre&&(x4 o).all (fun e=>zs8 e pre)&&ztg ops s o m pre&&
    (match zbp Γ o.op with
      | .anchor=>ss.all (fun t=>match ops[t.i]? with|some u=>(x4 u).any fun e=>!zs8 e pre|none=>false)&&zli ops Γ s.loose pre [o.dst]
      |_=>true)&&ze8 ops Γ (s ::pre) ss ((s.i,m) ::T)
def zly (ops:Array Oper) (Γ:Ctx) (steps:List PStep):Bool:=
  Region.noSelect ops&&(List.range ops.size).all (fun i=>zs8 i steps)&&ze8 ops Γ [] steps []
end Go.Sym
