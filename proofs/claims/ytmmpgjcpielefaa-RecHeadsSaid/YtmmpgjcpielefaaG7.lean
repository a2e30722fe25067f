/-
  Contracts of functions of the program, each said of symbolic values, and plain laws; no condition beyond each statement's own.
-/
import Derived.Test.YtmmpgjcpielefaaG6
set_option linter.unusedSimpArgs false
set_option linter.unusedVariables false
namespace Go.Sym
def Ret {α:Type} (F:(α→Prop)→Prop):Prop:= ∀k,F k→ ∃x,k x∧ ∀k':α→Prop,k' x→F k'
theorem zx5 {α:Type} (x:α):Ret (fun k=>k x):=fun _ h=>⟨x,h,fun _ h=>h⟩
theorem zb {α:Type}:Ret (fun _:α→Prop=>False):=fun _ h=>h.elim
theorem yj {α:Type} {p:Prop} {F:(α→Prop)→Prop} (h:Ret F):Ret (fun k=>Pre p (F k)):=fun k hk=>by
  obtain ⟨h1,h2⟩:=zl hk
  obtain ⟨x,h3,h4⟩:=h k h2
  exact ⟨x,h3,fun k' h=>zq h1 (h4 k' h)⟩
theorem z15 {R:SV→Prop}:Ret (fun k:SV→Prop=>zks R k):=fun k hk=>by
  obtain ⟨v,h1,h2⟩:=z3m hk
  exact ⟨v,h2,fun k' h=>zqn v h1 h⟩
theorem z04 {α:Type} {t:Bool} {F G:(α→Prop)→Prop} (h:Ret F) (h':Ret G):Ret (fun k=>zr t (F k) (G k)):=fun k hk=>by
  obtain ⟨h1,h2⟩:=zu hk
  cases t with
  |true=>
   obtain ⟨x,h3,h4⟩:=h k (h1 rfl)
   exact ⟨x,h3,fun k' h=>zi rfl (h4 k' h)⟩
  |false=>
   obtain ⟨x,h3,h4⟩:=h' k (h2 rfl)
   exact ⟨x,h3,fun k' h=>zj rfl (h4 k' h)⟩
section
variable {β:Type}
theorem zi3 {α:Type} {a b:List α} {G:List α→(β→Prop)→Prop} (h: ∀l,Ret (G l)):Ret (fun k=>zcn a b fun l=>G l k):=by
  induction a generalizing G with
  |nil=>exact h _
  |cons y ys ih=>exact ih (G:=fun l=>G (y ::l)) fun l=>h _
theorem z5e {α:Type} {l:List α} {i:Nat} {x:α} {G:List α→(β→Prop)→Prop} (h: ∀l,Ret (G l)):Ret (fun k=>zha l i x fun l=>G l k):=by
  induction l generalizing G i with
  |nil=>exact zb
  |cons y ys ih=>
   cases i with
   |zero=>exact h _
   |succ i=>exact ih (G:=fun l=>G (y ::l)) fun l=>h _
theorem zja {α:Type} {l:List α} {i:Nat} {G:α→(β→Prop)→Prop} (h: ∀x,Ret (G x)):Ret (fun k=>zdc l i fun x=>G x k):=by
  induction l generalizing i with
  |nil=>exact zb
  |cons y ys ih=>
   cases i with
   |zero=>exact h _
   |succ i=>exact ih
theorem yg {α:Type} {l:List (Nat×α)} {n:Nat} {G:α→(β→Prop)→Prop} (h: ∀x,Ret (G x)):Ret (fun k=>ye l n fun x=>G x k):=by
  induction l with
  |nil=>exact zb
  |cons p r ih=>
   obtain ⟨i,v⟩:=p
   simp only [ye]
   generalize Nat.beq i n=t
   cases t
   ·exact ih
   ·exact h _
theorem zy5 {v:Value} {G:SV→(β→Prop)→Prop} (h: ∀x,Ret (G x)):Ret (fun k=>zj9 v fun x=>G x k):=by
  intro k hk
  unfold zj9 at hk ⊢
  split at hk
  case h_12=>exact hk.elim
  all_goals (try split at hk)
  all_goals first
    |exact hk.elim
    |exact h _ k hk
    |(rename_i e;simp only [e];exact h _ k hk)
theorem x3 {tm:List (Nat×SV)} {x:Operand} {G:SV→(β→Prop)→Prop} (h: ∀x,Ret (G x)):Ret (fun k=>evK tm x fun x=>G x k):=by
  cases x with
  |tmp t=>exact yg h
  |const v=>exact zy5 h
  |func f=>exact h _
  |global g=>exact zb
theorem z0d {tm:List (Nat×SV)} {xs:List Operand} {G:List SV→(β→Prop)→Prop} (h: ∀x,Ret (G x)):Ret (fun k=>zvv tm xs fun x=>G x k):=by
  induction xs generalizing G with
  |nil=>exact h _
  |cons x xs ih=>exact x3 fun v=>ih (G:=fun vs=>G (v ::vs)) fun vs=>h _
theorem zmt {tm:List (Nat×SV)} {xs:List (Nat×Operand)} {G:List (Nat×SV)→(β→Prop)→Prop} (h: ∀x,Ret (G x)):Ret (fun k=>zhx tm xs fun x=>G x k):=by
  induction xs generalizing G with
  |nil=>exact h _
  |cons x xs ih=>
   obtain ⟨i,x⟩:=x
   exact x3 fun v=>ih (G:=fun vs=>G ((i,v) ::vs)) fun vs=>h _
theorem zmd {v:SV} {G:Nat→(β→Prop)→Prop} (h: ∀x,Ret (G x)):Ret (fun k=>zqk v fun x=>G x k):=by
  cases v<;>first|exact zb|exact h _|exact yj (h _)
theorem zpf {v:SV} {G:Nat→(β→Prop)→Prop} (h: ∀x,Ret (G x)):Ret (fun k=>zy0 v fun x=>G x k):=by
  cases v<;>first|exact zb|exact h _|exact yj (h _)
theorem zim {tm:List (Nat×SV)} {x:Option Operand} {G:Option Nat→(β→Prop)→Prop} (h: ∀x,Ret (G x)):Ret (fun k=>zf6 tm x fun x=>G x k):=by
  cases x with
  |none=>exact h _
  |some x=>exact x3 fun v=>zmd (G:=fun n=>G (some n)) fun n=>h _
theorem zh1 {ps:List SV} {j b:Nat} {G:List SV→List SV→(β→Prop)→Prop} (h: ∀a r,Ret (G a r)):Ret (fun k=>za6 ps j b fun a r=>G a r k):=by
  induction ps generalizing j b G with
  |nil=>
   cases j with
   |zero=>
    simp only [za6]
    generalize Nat.beq b 0=t
    cases t
    ·exact zb
    ·exact h _ _
   |succ j=>exact zb
  |cons p ps ih=>
   cases j with
   |zero=>
    simp only [za6]
    generalize Nat.beq b 0=t
    cases t
    ·exact zb
    ·exact h _ _
   |succ j=>
    simp only [za6]
    generalize Nat.ble p.size b=t
    cases t
    ·exact zb
    ·exact ih (G:=fun a r=>G (p ::a) r) fun a r=>h _ _
theorem zt1 {ps:List SV} {n:Nat} {G:List SV→List SV→(β→Prop)→Prop} (h: ∀a r,Ret (G a r)):Ret (fun k=>ze3 ps n fun a r=>G a r k):=by
  induction ps generalizing n G with
  |nil=>
   cases n with
   |zero=>exact h _ _
   |succ n=>exact zb
  |cons p ps ih=>
   cases n with
   |zero=>exact h _ _
   |succ n=>
    simp only [ze3]
    generalize Nat.ble p.size (n+1)=t
    cases t
    ·exact zb
    ·exact ih (G:=fun a r=>G (p ::a) r) fun a r=>h _ _
theorem zu5 {ps:List SV} {G:SV→(β→Prop)→Prop} (h: ∀v,Ret (G v)):Ret (fun k=>zhk ps fun v=>G v k):=by
  match ps with
  | []=>exact h _
  | [p]=>
    simp only [zhk]
    generalize p.isRow=t
    cases t
    ·exact h _
    ·exact h _
  |p ::q ::r=>exact h _
theorem zjl {ps:List SV} {j b c:Nat} {G:Nat→Nat→List (Nat×Nat)→(β→Prop)→Prop} (h: ∀a b c,Ret (G a b c)):Ret (fun k=>zfx ps j b c fun x y z=>G x y z k):=by
  induction ps generalizing j b c with
  |nil=>
   cases c with
   |zero=>exact h _ _ _
   |succ c=>exact zb
  |cons p ps ih=>
   cases c with
   |zero=>exact h _ _ _
   |succ c=>
    simp only [zfx]
    generalize Nat.ble p.size (c+1)=t
    cases t
    ·generalize p.isRow=t
     cases t
     ·exact zb
     ·exact h _ _ _
    ·exact ih
theorem z4x:
    (∀v:SV,∀(G:List SV→(β→Prop)→Prop),(∀l,Ret (G l))→Ret (fun k=>za8 v fun l=>G l k))∧
    (∀vs:List SV,∀(G:List SV→(β→Prop)→Prop),(∀l,Ret (G l))→Ret (fun k=>zd1 vs fun l=>G l k)):=by
  have one: ∀v:SV,∀(G:List SV→(β→Prop)→Prop),(∀l,Ret (G l))→Ret (fun k=>za8 v fun l=>G l k):=fun v=>by
    refine SV.rec (motive_1:=fun v=> ∀(G:List SV→(β→Prop)→Prop),(∀l,Ret (G l))→Ret (fun k=>za8 v fun l=>G l k))
      (motive_2:=fun vs=> ∀(G:List SV→(β→Prop)→Prop),(∀l,Ret (G l))→Ret (fun k=>zd1 vs fun l=>G l k))
      ?_ ?_ ?_ ?_ ?_ ?_ ?_ ?_ ?_ ?_ ?_ ?_ ?_ ?_ ?_ ?_ ?_ ?_ ?_ ?_ ?_ ?_ ?_ ?_ ?_ ?_ ?_ v
    case refine_22=>intro ps ih G h;exact ih G h
    case refine_26=>intro G h;exact h _
    case refine_27=>
      intro v vs ihv ihs G h
      exact ihv (fun a k=>zd1 vs fun b=>zcn a b fun l=>G l k) fun a=>ihs (fun b k=>zcn a b fun l=>G l k) fun b=>zi3 h
    all_goals (intros;rename_i h;exact h _)
  refine ⟨one,fun vs=>?_⟩
  induction vs with
  |nil=>intro G h;exact h _
  |cons v vs ih=>
   intro G h
   exact one v (fun a k=>zd1 vs fun b=>zcn a b fun l=>G l k) fun a=>ih (fun b k=>zcn a b fun l=>G l k) fun b=>zi3 h
theorem zdx {v:SV} {G:List SV→(β→Prop)→Prop} (h: ∀l,Ret (G l)):Ret (fun k=>za8 v fun l=>G l k):=z4x.1 v G h
theorem zot {o:List (Nat×Nat)} {es:Nat} {G:Nat→Nat→(β→Prop)→Prop} (h: ∀i c,Ret (G i c)):Ret (fun k=>ziu o es fun i c=>G i c k):=by
  match o with
  | []=>exact h _ _
  | [(i,e)]=>
    simp only [ziu]
    generalize Nat.beq e es=t
    cases t
    ·exact zb
    ·exact h _ _
  | [(i,e),(c,1)]=>
    simp only [ziu]
    generalize Nat.beq e es=t
    cases t
    ·exact zb
    ·exact h _ _
  | [(i,e),(c,0)]=>exact zb
  | [(i,e),(c,n+2)]=>exact zb
  |x ::(c,n) ::z ::r=>simp only [ziu];exact zb
theorem z3o {a:At} {G:SV→(β→Prop)→Prop} (h: ∀v,Ret (G v)):Ret (fun k=>atK a fun v=>G v k):=by
  cases a<;>exact h _
theorem z43 {as:List At} {G:List SV→(β→Prop)→Prop} (h: ∀v,Ret (G v)):Ret (fun k=>z12 as fun v=>G v k):=by
  induction as generalizing G with
  |nil=>exact h _
  |cons a as ih=>exact z3o fun v=>ih (G:=fun vs=>G (v ::vs)) fun vs=>h _
theorem z1t {α:Type} {l:List α} {n:Nat} {G:List α→(β→Prop)→Prop} (h: ∀v,Ret (G v)):Ret (fun k=>zvc l n fun v=>G v k):=by
  induction l generalizing n with
  |nil=>
   cases n with
   |zero=>exact h _
   |succ n=>exact zb
  |cons x xs ih=>
   cases n with
   |zero=>exact h _
   |succ n=>exact ih
theorem z07 {α:Type} {l:List α} {n:Nat} {G:List α→(β→Prop)→Prop} (h: ∀v,Ret (G v)):Ret (fun k=>zoq l n fun v=>G v k):=by
  induction l generalizing n G with
  |nil=>
   cases n with
   |zero=>exact h _
   |succ n=>exact zb
  |cons x xs ih=>
   cases n with
   |zero=>exact h _
   |succ n=>exact ih (G:=fun l=>G (x ::l)) fun l=>h _
theorem z29 {p:SV} {o:List (Nat×Nat)} {G:SV→(β→Prop)→Prop} (h: ∀v,Ret (G v)):Ret (fun k=>zle p o fun v=>G v k):=by
  cases p
  case tab n es f=>dsimp only [zle];exact zot fun i c=>yj (zja fun a=>z3o h)
  all_goals first
    |exact zb
    |exact yj (h _)
    |(cases o<;>first|exact h _|exact zb)
theorem z5g {p:SV} {o:List (Nat×Nat)} {m:Nat} {G:SV→(β→Prop)→Prop} (h: ∀v,Ret (G v)):Ret (fun k=>zqu p o m fun v=>G v k):=by
  cases p
  case tab n es f=>dsimp only [zqu];exact zot fun i c=>yj (z1t fun r=>z07 fun as=>z43 (G:=fun vs=>G (.agg vs)) fun vs=>h _)
  all_goals first
    |exact zb
    |exact yj (h _)
theorem zjp {ti:TyI} {ps:List SV} {j b:Nat} {o:List (Nat×Nat)} {G:SV→(β→Prop)→Prop} (h: ∀v,Ret (G v)):Ret (fun k=>zkj ti ps j b o fun v=>G v k):=by
  obtain ⟨d,sz,bytes,zero,eqOk⟩:=ti
  refine zh1 (G:=fun _ r k=>match (generalizing:=false) d with
    | .arr .. | .struct .. =>match (generalizing:=false) o with
      | []=>ze3 r sz fun a _=>zhk a fun v=>G v k
      |_=>match (generalizing:=false) r with|p ::_=>zqu p o sz fun v=>G v k| []=>False
    |_=>match (generalizing:=false) r with|p ::_=>zle p o (fun v=>G v k)| []=>False) fun a r=>?_
  have s:Ret (fun k=>match (generalizing:=false) r with|p ::_=>zle p o (fun v=>G v k)| []=>False):=by
    cases r
    ·exact zb
    ·exact z29 h
  have t:Ret (fun k=>match (generalizing:=false) o with
   | []=>ze3 r sz fun a _=>zhk a fun v=>G v k
   |_=>match (generalizing:=false) r with|p ::_=>zqu p o sz fun v=>G v k| []=>False):=by
    cases o with
    |nil=>exact zt1 fun a _=>zu5 h
    |cons x o=>
     cases r
     ·exact zb
     ·exact z5g h
  cases d<;>first|exact s|exact t
theorem z1o {vs:List SV} {G:List UInt64→(β→Prop)→Prop} (h: ∀v,Ret (G v)):Ret (fun k=>zq0 vs fun v=>G v k):=by
  induction vs generalizing G with
  |nil=>exact h _
  |cons v vs ih=>cases v<;>first|exact zb|exact ih (G:=fun l=>G (_ ::l)) fun l=>h _
theorem zub {v:SV} {G:At→(β→Prop)→Prop} (h: ∀v,Ret (G v)):Ret (fun k=>znh v fun v=>G v k):=by
  cases v<;>first|exact zb|exact h _
theorem zrp {vs:List SV} {G:List At→(β→Prop)→Prop} (h: ∀v,Ret (G v)):Ret (fun k=>zi9 vs fun v=>G v k):=by
  induction vs generalizing G with
  |nil=>exact h _
  |cons v vs ih=>exact zub fun a=>ih (G:=fun as=>G (a ::as)) fun l=>h _
theorem zq2 {p:SV} {o:List (Nat×Nat)} {v:SV} {G:SV→(β→Prop)→Prop} (h: ∀v,Ret (G v)):Ret (fun k=>zdy p o v fun v=>G v k):=by
  have plain:Ret (fun k=>match (generalizing:=false) o with
    | []=>match (generalizing:=false) v.scalar with|true=>G v k|false=>False
    |_=>False):=by
    cases o with
    |nil=>
     generalize v.scalar=t
     cases t
     ·exact zb
     ·exact h _
    |cons x o=>exact zb
  cases p
  case tab n es f=>
    have one:Ret (fun k=>znh v fun a=>ziu o es fun i c=>Pre (i<n) (zha (f i) c a fun r=>G (.tab n es (za3 f i r)) k)):=
      zub fun a=>zot fun i c=>yj (z5e (G:=fun r=>G (.tab n es (za3 f i r))) fun r=>h _)
    cases v
    case agg vs=>
      refine zrp (G:=fun as k=>ziu o es fun i c=>match (generalizing:=false) c with
        |0=>Pre (i<n∧as.length=es) (G (.tab n es (za3 f i as)) k)
        |_=>False) fun as=>zot (G:=fun i c k=>match (generalizing:=false) c with
        |0=>Pre (i<n∧as.length=es) (G (.tab n es (za3 f i as)) k)
        |_=>False) fun i c=>?_
      cases c
      ·exact yj (h _)
      ·exact zb
    all_goals exact one
  case arr8 n l=>cases v<;>first|exact zb|exact yj (h _)
  case arr32 n l=>cases v<;>first|exact zb|exact yj (h _)
  case arr64 n l=>cases v<;>first|exact zb|exact yj (h _)|exact z1o fun x=>yj (h _)
  case arri n l=>cases v<;>first|exact zb|exact yj (h _)
  case arrs n l=>cases v<;>first|exact zb|exact yj (h _)
  case agg ps=>exact zb
  case tup ps=>exact zb
  all_goals (cases o<;>first|exact zb|(dsimp only [zdy];exact plain))
theorem zky {ti:TyI} {ps:List SV} {j b:Nat} {o:List (Nat×Nat)} {v:SV} {G:List SV→(β→Prop)→Prop} (h: ∀v,Ret (G v)):Ret (fun k=>zd0 ti ps j b o v fun v=>G v k):=by
  unfold zd0
  refine zh1 (G:=fun a r k=>match (generalizing:=false) o with
    | []=>match (generalizing:=false) v.many with
      |true=>ze3 r ti.sz fun _ r'=>za8 v fun fs=>match (generalizing:=false) Nat.beq (z6 fs) ti.sz with|true=>(match (generalizing:=false) zgo fs with|true=>zcn fs r' fun q=>zcn a q fun v=>G v k|false=>False)|false=>False
      |false=>match (generalizing:=false) Nat.beq ti.sz 1 with
       |true=>match (generalizing:=false) r with|p ::r'=>zdy p [] v fun p'=>zcn a (p' ::r') fun v=>G v k| []=>False
       |false=>False
    |_=>match (generalizing:=false) Nat.beq v.size ti.sz with
     |true=>match (generalizing:=false) r with|p ::r'=>zdy p o v fun p'=>zcn a (p' ::r') fun v=>G v k| []=>False
     |false=>False) fun a r=>?_
  cases o with
  |nil=>
   generalize v.many=t
   cases t
   ·generalize Nat.beq ti.sz 1=t
    cases t
    ·exact zb
    ·cases r with
     |nil=>exact zb
     |cons p r'=>exact zq2 fun p'=>zi3 h
   ·refine zt1 fun _ r'=>zdx (G:=fun fs k=>match (generalizing:=false) Nat.beq (z6 fs) ti.sz with|true=>(match (generalizing:=false) zgo fs with|true=>zcn fs r' fun q=>zcn a q fun v=>G v k|false=>False)|false=>False) fun fs=>?_
    generalize Nat.beq (z6 fs) ti.sz=t
    cases t
    ·exact zb
    ·generalize zgo fs=t
     cases t
     ·exact zb
     ·exact zi3 fun q=>zi3 h
  |cons x o=>
   dsimp only
   generalize Nat.beq v.size ti.sz=t
   cases t
   ·exact zb
   ·cases r with
    |nil=>exact zb
    |cons p r'=>exact zq2 fun p'=>zi3 h
theorem z38 {op:BinOp} {a b:Int} {G:SV→(β→Prop)→Prop} (h: ∀v,Ret (G v)):Ret (fun k=>z2z op a b fun v=>G v k):=by
  cases op<;>first|exact zb|exact h _|exact yj (h _)
theorem z6j {op:BinOp} {a b:UInt8} {G:SV→(β→Prop)→Prop} (h: ∀v,Ret (G v)):Ret (fun k=>u8K op a b fun v=>G v k):=by
  cases op<;>first|exact zb|exact h _|exact yj (h _)
theorem z3t {op:BinOp} {a b:UInt16} {G:SV→(β→Prop)→Prop} (h: ∀v,Ret (G v)):Ret (fun k=>z1v op a b fun v=>G v k):=by
  cases op<;>first|exact zb|exact h _|exact yj (h _)
theorem z3x {op:BinOp} {a b:UInt32} {G:SV→(β→Prop)→Prop} (h: ∀v,Ret (G v)):Ret (fun k=>z1x op a b fun v=>G v k):=by
  cases op<;>first|exact zb|exact h _|exact yj (h _)
theorem z5r {op:BinOp} {a b:UInt64} {G:SV→(β→Prop)→Prop} (h: ∀v,Ret (G v)):Ret (fun k=>z28 op a b fun v=>G v k):=by
  cases op<;>first|exact zb|exact h _|exact yj (h _)
theorem z4a {op:BinOp} {a b:List UInt8} {G:SV→(β→Prop)→Prop} (h: ∀v,Ret (G v)):Ret (fun k=>z1k op a b fun v=>G v k):=by
  cases op<;>first|exact zb|exact h _|exact yj (h _)
theorem z4b {x y:SV} {G:SV→(β→Prop)→Prop} (h: ∀v,Ret (G v)):Ret (fun k=>z1i x y fun v=>G v k):=by
  cases x<;>first
    |exact zpf fun n=>yj (h _)
    |exact zpf fun n=>zb
theorem z5y {x y:SV} {G:SV→(β→Prop)→Prop} (h: ∀v,Ret (G v)):Ret (fun k=>z18 x y fun v=>G v k):=by
  cases x<;>first
    |exact zpf fun n=>yj (h _)
    |exact zpf fun n=>zb
theorem z4q {op:BinOp} {x y:SV} {G:SV→(β→Prop)→Prop} (h: ∀v,Ret (G v)):Ret (fun k=>zwf op x y fun v=>G v k):=by
  cases op
  case shl=>exact z4b h
  case shr=>exact z5y h
  all_goals
    cases x<;>first
      |exact zb
      |(cases y<;>dsimp only [zwf]<;>first|exact zb|exact z38 h|exact z6j h|exact z3t h|exact z3x h|exact z5r h|exact z4a h)
theorem z63 {op:UnOp} {x:SV} {G:SV→(β→Prop)→Prop} (h: ∀v,Ret (G v)):Ret (fun k=>unK op x fun v=>G v k):=by
  cases op<;>cases x<;>first|exact zb|exact h _|exact yj (h _)
theorem zsf {d:IntKind} {x:SV} {G:SV→(β→Prop)→Prop} (h: ∀v,Ret (G v)):Ret (fun k=>ze2 d x fun v=>G v k):=by
  cases d<;>cases x<;>first|exact zb|exact h _|exact yj (h _)
end
end Go.Sym

namespace Go.Sym
section
variable {β:Type} {Γ:Ctx}
theorem zlt {hp:List Blk} {n:Nat} {G:TypeId→List SV→(β→Prop)→Prop} (h: ∀a b,Ret (G a b)):Ret (fun k=>zck hp n fun a b=>G a b k):=by
  refine zja (G:=fun (b:Blk) k=>match (generalizing:=false) b with| .mk el ps=>G el ps k| .dead=>False) fun b=>?_
  cases b
  ·exact h _ _
  ·exact zb
theorem z4k {hp:List Blk} {n j b:Nat} {G:SV→(β→Prop)→Prop} (h: ∀v,Ret (G v)):Ret (fun k=>z0c hp n j b fun v=>G v k):=by
  refine zlt fun _ ps=>zh1 (G:=fun _ r k=>match (generalizing:=false) r with|p ::_=>G p k| []=>False) fun _ r=>?_
  cases r
  ·exact zb
  ·exact h _
theorem zz1 {hp:List Blk} {v:SV} {G:List UInt8→(β→Prop)→Prop} (h: ∀v,Ret (G v)):Ret (fun k=>zgm hp v fun v=>G v k):=by
  cases v
  case sl k j b o n c=>
    refine z4k (G:=fun p k=>match (generalizing:=false) p with
      | .arr8 _ l=>Pre (off o+n≤l.length) (G ((l.drop (off o)).take n) k)
      |_=>False) fun p=>?_
    cases p<;>first|exact zb|exact yj (h _)
  all_goals first|exact zb|exact h _
theorem zk2 {fi:TyI} {ps:List SV} {c:Nat} {G:SV→(β→Prop)→Prop} (h: ∀v,Ret (G v)):Ret (fun k=>zex fi ps c fun v=>G v k):=by
  cases c with
  |zero=>dsimp only [zex];exact zjp h
  |succ c=>dsimp only [zex];exact zjl fun j b o=>zjp h
theorem z9d (f:Nat):(∀(t:TypeId) (x y:SV) (G:Bool→(β→Prop)→Prop),(∀v,Ret (G v))→Ret (fun k=>eqK Γ f t x y fun v=>G v k))∧
    (∀(fs:List (Nat×TypeId)) (xs ys:List SV) (G:Bool→(β→Prop)→Prop),(∀v,Ret (G v))→Ret (fun k=>zlc Γ f fs xs ys fun v=>G v k)):=by
  induction f with
  |zero=>exact ⟨fun t x y G h=>by simp only [eqK];exact zb,fun fs xs ys G h=>by simp only [zlc];exact zb⟩
  |succ f ih=>
   refine ⟨fun t x y G h=>?_,fun fs xs ys G h=>?_⟩
   ·intro k hk
    simp only [eqK] at hk ⊢
    revert k
    refine yg (G:=fun ti k=>_) fun ti=>?_
    obtain ⟨d,sz,bytes,zero,eqOk⟩:=ti
    dsimp only
    cases d
    case int kd=>cases kd<;>first|exact zb|(cases x<;>first|exact zb|(cases y<;>first|exact zb|exact h _))
    case arr n e=>
      refine yg (G:=fun ei k=>_) fun ei=>?_
      obtain ⟨d,sz,bytes,zero,eqOk⟩:=ei
      dsimp only
      cases d
      case int kd=>
        cases kd<;>first
          |exact zb
          |(cases x<;>first
             |exact zb
             |(cases y<;>first
                |exact zb
                |(rename_i m a m' b
                  dsimp only
                  generalize Nat.beq m n=t
                  generalize Nat.beq m' n=t'
                  cases t
                  ·exact zb
                  ·cases t'
                   ·exact zb
                   ·exact h _)))
      all_goals exact zb
    case struct fs=>
      cases eqOk
      ·exact zb
      ·dsimp only
       generalize x.many=t
       generalize y.many=t'
       cases t
       ·exact zb
       ·cases t'
        ·exact zb
        ·exact zdx fun xs=>zdx fun ys=>ih.2 _ _ _ _ h
    all_goals first|exact zb|(cases x<;>first|exact zb|(cases y<;>first|exact zb|exact h _))
   ·cases fs with
    |nil=>simp only [zlc];exact h _
    |cons p fs=>
     obtain ⟨c,t⟩:=p
     simp only [zlc]
     exact yg fun ti=>zk2 fun a=>zk2 fun b=>ih.1 _ _ _ (fun r k=>zlc Γ f fs xs ys fun r'=>G (r&&r') k) fun r=>ih.2 _ _ _ (fun r' k=>G (r&&r') k) fun r'=>h _
theorem z3n {f:Nat} {t:TypeId} {x y:SV} {G:Bool→(β→Prop)→Prop} (h: ∀v,Ret (G v)):Ret (fun k=>eqK Γ f t x y fun v=>G v k):=(z9d f).1 t x y G h
theorem z2t {op:BinOp} {t:TypeId} {x y:SV} {G:SV→(β→Prop)→Prop} (h: ∀v,Ret (G v)):Ret (fun k=>zui Γ op t x y fun v=>G v k):=by
  have go: ∀(g:Bool→SV),Ret (fun k=>match (generalizing:=false) x.many with
   |true=>ye Γ.ty t fun ti=>match (generalizing:=false) ti.eqOk with|true=>eqK Γ 60 t x y (fun r=>G (g r) k)|false=>False
   |false=>eqK Γ 60 t x y (fun r=>G (g r) k)):=fun g=>by
    generalize x.many=m
    cases m
    ·exact z3n (G:=fun r=>G (g r)) fun r=>h _
    ·refine yg (G:=fun (ti:TyI) k=>match (generalizing:=false) ti.eqOk with|true=>eqK Γ 60 t x y (fun r=>G (g r) k)|false=>False) fun ti=>?_
     generalize ti.eqOk=q
     cases q
     ·exact zb
     ·exact z3n (G:=fun r=>G (g r)) fun r=>h _
  have big:Ret (fun k=>match (generalizing:=false) op with
    | .eql=>match (generalizing:=false) x.many with
      |true=>ye Γ.ty t fun ti=>match (generalizing:=false) ti.eqOk with|true=>eqK Γ 60 t x y (fun r=>G (.bool r) k)|false=>False
      |false=>eqK Γ 60 t x y (fun r=>G (.bool r) k)
    | .neq=>match (generalizing:=false) x.many with
      |true=>ye Γ.ty t fun ti=>match (generalizing:=false) ti.eqOk with|true=>eqK Γ 60 t x y (fun r=>G (.bool (!r)) k)|false=>False
      |false=>eqK Γ 60 t x y (fun r=>G (.bool (!r)) k)
    |_=>False):=by
    cases op<;>first|exact zb|exact go (fun r=> .bool r)|exact go (fun r=> .bool (!r))
  cases x<;>first|exact z4q h|exact big
theorem zxq {l:List UInt8} {lo hi:Option Nat} {G:SV→(β→Prop)→Prop} (h: ∀v,Ret (G v)):Ret (fun k=>ztf l lo hi fun v=>G v k):=by
  cases lo<;>cases hi<;>first|exact h _|exact yj (h _)
theorem zqb {k j b:Nat} {o:List (Nat×Nat)} {n c es:Nat} {lo hi mx:Option Nat} {G:SV→(β→Prop)→Prop} (h: ∀v,Ret (G v)):Ret (fun K=>zk5 k j b o n c es lo hi mx fun v=>G v K):=by
  cases lo<;>cases hi<;>cases mx<;>first|exact zb|exact h _|exact yj (h _)|exact yj (yj (h _))
theorem zxe {t:TypeId} {x:SV} {lo hi mx:Option Nat} {G:SV→(β→Prop)→Prop} (h: ∀v,Ret (G v)):Ret (fun K=>zp2 Γ t x lo hi mx fun v=>G v K):=by
  cases x
  case str l=>
    refine yg (G:=fun ti K=>_) fun ti=>?_
    obtain ⟨d,sz,bytes,zero,eqOk⟩:=ti
    cases d<;>first|exact zb|(cases mx<;>first|exact zb|exact zxq h)
  case nilsl=>
    refine yg (G:=fun ti K=>_) fun ti=>?_
    obtain ⟨d,sz,bytes,zero,eqOk⟩:=ti
    cases d<;>first|exact zb|(refine yg (G:=fun ti K=>_) fun ti=>?_;cases hi<;>cases mx<;>first|exact zb|exact yj (h _))
  case sl k j b o n c=>
    refine yg (G:=fun ti K=>_) fun ti=>?_
    obtain ⟨d,sz,bytes,zero,eqOk⟩:=ti
    cases d<;>first|exact zb|exact yg fun ei=>zqb h
  case ptr k j b o=>
    refine yg (G:=fun ti K=>_) fun ti=>?_
    obtain ⟨d,sz,bytes,zero,eqOk⟩:=ti
    cases d<;>first|exact zb|exact yg fun ei=>zqb h
  all_goals exact zb
theorem z5x {z:SV} {n:Nat} {G:List SV→(β→Prop)→Prop} (h: ∀v,Ret (G v)):Ret (fun K=>zrz z n fun v=>G v K):=by
  induction n generalizing G with
  |zero=>exact h _
  |succ n ih=>exact ih (G:=fun l=>G (z ::l)) fun l=>h _
theorem zu0 {z:SV} {n:Nat} {G:List SV→(β→Prop)→Prop} (h: ∀v,Ret (G v)):Ret (fun K=>zrf z n fun v=>G v K):=by
  cases z
  case arr8 m l=>cases l<;>first|exact zb|exact yj (h _)
  case agg ps=>
    refine zrp (G:=fun as K=>match (generalizing:=false) as with| []=>False|a ::r=>G [.tab n (r.length+1) fun _=>a ::r] K) fun as=>?_
    cases as
    ·exact zb
    ·exact h _
  all_goals first|exact zb|exact h _|exact z5x h
theorem zsy {ei:TyI} {ps:List SV} {i:Nat} {v:SV} {G:List SV→(β→Prop)→Prop} (h: ∀v,Ret (G v)):Ret (fun K=>zey ei ps i v fun v=>G v K):=by
  have w:Ret (fun K=>zfx ps 0 0 (i*ei.sz) fun j b o=>zd0 ei ps j b o v fun v=>G v K):=zjl fun j b o=>zky h
  match ps,w with
  | [],w=>exact w
  | [p],w=>
    dsimp only [zey]
    generalize p.isRow=t
    cases t
    ·exact w
    ·exact zky h
  |p ::q ::r,w=>exact w
theorem zje {ei:TyI} {ps:List SV} {g:List (Nat×SV)} {G:List SV→(β→Prop)→Prop} (h: ∀v,Ret (G v)):Ret (fun K=>zdf ei ps g fun v=>G v K):=by
  induction g generalizing ps with
  |nil=>exact h _
  |cons p r ih=>obtain ⟨i,v⟩:=p;exact zsy fun ps'=>ih
theorem zow {fs:List (Nat×TypeId)} {ps:List SV} {g:List (Nat×SV)} {G:List SV→(β→Prop)→Prop} (h: ∀v,Ret (G v)):Ret (fun K=>zcf Γ fs ps g fun v=>G v K):=by
  induction g generalizing ps with
  |nil=>exact h _
  |cons p r ih=>obtain ⟨i,v⟩:=p;exact zja fun ft=>yg fun fi=>zjl fun j b o=>zky fun ps'=>ih
theorem z0x {fs:List (Nat×TypeId)} {F:(β→Prop)→Prop} (h:Ret F):Ret (fun K=>zlj Γ fs (F K)):=by
  induction fs with
  |nil=>exact h
  |cons p r ih=>obtain ⟨i,v⟩:=p;exact yg fun _=>ih
theorem zy1 {t:TypeId} {g:List (Nat×SV)} {G:SV→(β→Prop)→Prop} (h: ∀v,Ret (G v)):Ret (fun K=>zo9 Γ t g fun v=>G v K):=by
  refine yg (G:=fun ti K=>_) fun ti=>?_
  obtain ⟨d,sz,bytes,zero,eqOk⟩:=ti
  dsimp only
  generalize zero.many=m
  cases m
  ·exact zb
  ·refine zdx (G:=fun zs K=>_) fun zs=>?_
   cases d
   case struct fs=>exact z0x (zow (G:=fun ps=>G (.agg ps)) fun ps=>h _)
   case arr n e=>exact yg fun ei=>zje fun ps=>zu5 h
   all_goals exact zb
theorem z08 (op:Op) (tm:List (Nat×SV)):Ret (fun k=>xd Γ op tm k):=by
  have hk: ∀v:SV,Ret (fun k:SV→Prop=>k v):=fun v=>zx5 v
  cases op
  case move x=>exact x3 (G:=fun v k=>k v) hk
  case assign x=>exact x3 (G:=fun v k=>k v) hk
  case pick c x y=>
    refine x3 (G:=fun cv K=>_) fun cv=>x3 (G:=fun av K=>_) fun av=>x3 (G:=fun bv K=>_) fun bv=>?_
    cases cv<;>first|exact zb|exact z04 (hk _) (hk _)
  case build t ps=>exact zmt fun g=>zy1 hk
  case nilCheck x=>
    refine x3 (G:=fun v K=>_) fun v=>?_
    cases v<;>first|exact zb|exact hk _
  case binOp op t x y t'=>exact x3 fun a=>x3 fun b=>z2t hk
  case unOp op t x=>exact x3 fun a=>z63 hk
  case slice t x lo hi mx=>exact x3 fun v=>zim fun lo=>zim fun hi=>zim fun mx=>zxe hk
  case field s x f=>
    refine yg (G:=fun ti K=>_) fun ti=>?_
    obtain ⟨d,sz,bytes,zero,eqOk⟩:=ti
    cases d
    case struct fs=>
      refine zja (G:=fun ft K=>_) fun ft=>yg (G:=fun fi K=>_) fun fi=>x3 (G:=fun v K=>_) fun v=>?_
      try dsimp only
      generalize v.many=m
      cases m
      ·exact zb
      ·exact zdx fun ps=>zk2 hk
    all_goals exact zb
  case indexAddr t x i=>
    refine yg (G:=fun ti K=>_) fun ti=>x3 (G:=fun v K=>_) fun v=>x3 (G:=fun iv K=>_) fun iv=>zmd (G:=fun ix K=>_) fun ix=>?_
    obtain ⟨d,sz,bytes,zero,eqOk⟩:=ti
    cases d
    case arr n e=>
      refine yg (G:=fun ei K=>_) fun ei=>?_
      cases v<;>first|exact zb|exact yj (hk _)
    case sl e=>
      refine yg (G:=fun ei K=>_) fun ei=>?_
      cases v<;>first|exact zb|exact yj (hk _)
    all_goals exact zb
  case index t x i=>
    refine yg (G:=fun ti K=>_) fun ti=>x3 (G:=fun v K=>_) fun v=>x3 (G:=fun iv K=>_) fun iv=>zmd (G:=fun ix K=>_) fun ix=>?_
    obtain ⟨d,sz,bytes,zero,eqOk⟩:=ti
    cases v
    case str l=>cases d<;>first|exact zb|exact yj (hk _)
    all_goals (cases d<;>first|exact zb|exact yg fun ei=>zb|exact yg fun ei=>yj (zjp hk))
  case makeFunc fn first caps=>
    refine z0d (G:=fun vs K=>_) fun vs=>?_
    cases fn
    case func f=>
      dsimp only
      generalize first.toList=fl
      cases fl<;>first|exact zb|exact hk _
    all_goals exact zb
  case extract x i=>
    refine x3 (G:=fun v K=>_) fun v=>?_
    cases v<;>first|exact zb|exact zja hk
  case convert s d x=>
    refine yg (G:=fun si K=>_) fun si=>yg (G:=fun di K=>_) fun di=>?_
    obtain ⟨d,sz,bytes,zero,eqOk⟩:=di
    cases d<;>first|exact zb|exact x3 fun v=>zsf hk
  case call c=>
    obtain ⟨callee,args,argTypes⟩:=c
    refine z0d (G:=fun vs K=>_) fun vs=>?_
    dsimp only
    cases callee
    case builtin b=>
      cases b
      case len=>
        dsimp only
        generalize argTypes.toList=ats
        match ats with
        | []=>exact zb
        | [t]=>
          refine yg (G:=fun ti K=>_) fun ti=>?_
          obtain ⟨d,sz,bytes,zero,eqOk⟩:=ti
          dsimp only
          cases d
          case str=>
            match vs with
            | []=>exact zb
            | [v]=>cases v<;>first|exact zb|exact hk _
            |v ::u ::r=>cases v<;>exact zb
          case sl e=>
            match vs with
            | []=>exact zb
            | [v]=>cases v<;>first|exact zb|exact hk _
            |v ::u ::r=>cases v<;>exact zb
          case arr n e=>
            match vs with
            | []=>exact zb
            | [v]=>exact hk _
            |v ::u ::r=>exact zb
          all_goals exact zb
        |_ ::_ ::_=>exact zb
      case min=>
        match vs with
        | []=>exact zb
        | [v]=>cases v<;>exact zb
        | [v,u]=>cases v<;>first|exact zb|(cases u<;>first|exact zb|exact hk _)
        | [v,u,x]=>cases v<;>first|exact zb|(cases u<;>first|exact zb|(cases x<;>first|exact zb|exact hk _))
        |v ::u ::x ::y ::r=>cases v<;>first|exact zb|(cases u<;>first|exact zb|(cases x<;>exact zb))
      case max=>
        match vs with
        | []=>exact zb
        | [v]=>cases v<;>exact zb
        | [v,u]=>cases v<;>first|exact zb|(cases u<;>first|exact zb|exact hk _)
        | [v,u,x]=>cases v<;>first|exact zb|(cases u<;>first|exact zb|(cases x<;>first|exact zb|exact hk _))
        |v ::u ::x ::y ::r=>cases v<;>first|exact zb|(cases u<;>first|exact zb|(cases x<;>exact zb))
      all_goals exact zb
    all_goals exact zb
  all_goals exact zb
theorem zuv (op:Op) (tm:List (Nat×SV)) (hp:List Blk):Ret (fun k=>zdo Γ op tm hp k):=by
  have hk: ∀v:SV,Ret (fun k:SV→Prop=>k v):=fun v=>zx5 v
  cases op
  case load t x=>
    refine yg (G:=fun ti K=>_) fun ti=>x3 (G:=fun v K=>_) fun v=>?_
    cases v<;>first|exact zb|exact zlt fun _ ps=>zjp hk|exact z15
  case fieldAddr s x f=>
    refine yg (G:=fun ti K=>_) fun ti=>?_
    obtain ⟨d,sz,bytes,zero,eqOk⟩:=ti
    cases d
    case struct fs=>
      refine zja (G:=fun ft K=>_) fun ft=>yg (G:=fun fi K=>_) fun fi=>?_
      obtain ⟨d,sz,bytes,zero,eqOk⟩:=fi
      obtain ⟨c,t⟩:=ft
      cases sz
      ·exact zb
      ·refine x3 (G:=fun v K=>_) fun v=>?_
       cases v
       case xptr A=>exact hk _
       case ptr k j b oo=>
         cases c
         ·exact hk _
         ·cases oo
          ·exact zlt fun _ ps=>zh1 fun _ r=>zjl (G:=fun j' b' o' (K:SV→Prop)=>K (SV.ptr k j' b' o')) fun _ _ _=>hk _
          ·exact hk _
       all_goals exact zb
    all_goals exact zb
  case convert s d x=>
    refine yg (G:=fun si K=>_) fun si=>yg (G:=fun di K=>_) fun di=>?_
    obtain ⟨ds,szs,bytess,zeros,eqOks⟩:=si
    obtain ⟨d,sz,bytes,zero,eqOk⟩:=di
    cases d
    case str=>
      refine x3 (G:=fun v K=>_) fun v=>?_
      cases v
      case str l=>exact hk _
      case nilsl=>
        cases ds
        case sl e=>
          refine yg (G:=fun ei K=>_) fun ei=>?_
          obtain ⟨d,sz,bytes,zero,eqOk⟩:=ei
          cases d
          case int kd=>cases kd<;>first|exact zb|exact hk _
          all_goals exact zb
        all_goals exact zb
      case sl k j b o n c=>
        cases ds
        case sl e=>
          refine yg (G:=fun ei K=>_) fun ei=>?_
          obtain ⟨d,sz,bytes,zero,eqOk⟩:=ei
          cases d
          case int kd=>cases kd<;>first|exact zb|exact zz1 (G:=fun l (K:SV→Prop)=>K (SV.str l)) fun l=>hk _
          all_goals exact zb
        all_goals exact zb
      all_goals exact zb
    all_goals exact zb
  all_goals exact zb
theorem z0s (op:Op) (tm:List (Nat×SV)) (m:Nat):Ret (fun k:SV×Blk→Prop=>zbe Γ op tm m fun v b=>k (v,b)):=by
  have hk: ∀v b,Ret (fun k:SV×Blk→Prop=>k (v,b)):=fun v b=>zx5 (v,b)
  cases op
  case alloc t=>exact yg fun ti=>zdx fun ps=>hk _ _
  case box t x=>exact x3 fun v=>zdx fun ps=>hk _ _
  case buildSlice t n ps=>
    refine zmt (G:=fun g K=>_) fun g=>yg (G:=fun ti K=>_) fun ti=>?_
    obtain ⟨d,sz,bytes,zero,eqOk⟩:=ti
    cases d<;>first|exact zb|exact yg fun ei=>yj (zu0 fun zs=>zje fun ps=>hk _ _)
  case makeSlice t x y=>
    refine x3 (G:=fun lv K=>_) fun lv=>x3 (G:=fun cv K=>_) fun cv=>zmd (G:=fun l K=>_) fun l=>zmd (G:=fun c K=>_) fun c=>yg (G:=fun ti K=>_) fun ti=>?_
    obtain ⟨d,sz,bytes,zero,eqOk⟩:=ti
    cases d<;>first|exact zb|exact yg fun ei=>yj (zu0 fun zs=>hk _ _)
  all_goals exact zb
end
end Go.Sym

namespace Go.Sym
structure PStep where
  i:Nat
  loose:List Nat
inductive LateK where
  |pure|read (M:List Nat)|maker (b:Nat)
structure Late where
  i:Nat
  o:Oper
  v:SV
  k:LateK
def zor (v u:SV) (p:Prop):Prop:=v=u∧p
attribute [irreducible] zor
theorem za {v:SV} {p:Prop} (h:p):zor v v p:=by unfold zor;exact ⟨rfl,h⟩
theorem zk9 {v u:SV} {p:Prop} (h:zor v u p):v=u∧p:=by unfold zor at h;exact h
def zaw (L:List Nat):List Late→(List Nat→Prop)→Prop
  | [],k=>k []
  |x ::xs,k=>match x.k with
   | .maker b=>match zaj L x.i with|true=>zaw L xs fun M=>k (b ::M)|false=>zaw L xs k
   |_=>zaw L xs k
def zjf:List Nat→List Blk→(List Blk→Prop)→Prop
  | [],hp,k=>k hp
  |m ::M,hp,k=>zha hp m .dead fun hp'=>zjf M hp' k
def zef (hp:List Blk):List Nat→List Blk→(List Blk→Prop)→Prop
  | [],hp',k=>k hp'
  |m ::M,hp',k=>zdc hp m fun b=>zha hp' m b fun hp''=>zef hp M hp'' k
def zp9 (M:List Nat):List Nat→Bool
  | []=>true
  |x ::xs=>match zaj M x with|true=>false|false=>zp9 M xs
def zde (M:List Nat) (v:SV) (p:Prop):Prop:=
  match M with
  | []=>p
  |_ ::_=>match zp9 M v.ks with|true=>p|false=>False
def zcj (M:List Nat):List Blk→Prop→Prop
  | [],p=>p
  |b ::bs,p=>match M with
   | []=>p
   |_ ::_=>match b with
    | .dead=>zcj M bs p
    | .mk _ ps=>match zp9 M (ksL ps) with|true=>zcj M bs p|false=>False
def reK (Γ:Ctx) (tm:List (Nat×SV)) (hp:List Blk) (L:List Nat):List Late→Prop→Prop
  | [],p=>p
  |x ::xs,p=>match x.k with
   | .read M=>match zaj L x.i with
     |true=>zjf M hp fun hm=>zdo Γ x.o.op tm hm fun v=>zor v x.v (reK Γ tm hp L xs p)
     |false=>reK Γ tm hp L xs p
   |_=>reK Γ tm hp L xs p
def addM (b:Nat):List Late→List Late
  | []=> []
  |x ::xs=>(match x.k with| .read M=>⟨x.i,x.o,x.v,.read (b ::M)⟩|_=>x) ::addM b xs
def zia (all:List Oper) (o:Oper) (tm:List (Nat×SV)) (yes no:Prop):Prop:=
  match o.guard with
  |none=>yes
  |some (j,want)=>zdc all j fun g=>match g.dst with
   |some d=>ye tm d fun v=>match v with
    | .bool t=>zr (t==want) yes no
    | .tup _=>no
    |_=>False
   |none=>False
noncomputable def zc8 (Γ:Ctx) (all:List Oper) (steps:List PStep):List Late→List (Nat×SV)→List Blk→(St→Prop)→Prop:=
  List.rec (motive:=fun _=>List Late→List (Nat×SV)→List Blk→(St→Prop)→Prop) (fun _ tm hp K=>K ⟨tm,hp⟩) (fun s _ ih late tm hp K=>zdc all s.i fun o=>zia all o tm
    (match zak Γ o.op with
      | .pure=>xd Γ o.op tm fun v=>zaw s.loose late fun M=>zde M v (zce Γ.nt tm hp o.dst v fun st=>match st with|⟨tm',hp'⟩=>ih (⟨s.i,o,v,.pure⟩ ::late) tm' hp' K)
      | .read=>zaw s.loose late fun M=>zjf M hp fun hm=>zdo Γ o.op tm hm fun v=>zde M v (zce Γ.nt tm hp o.dst v fun st=>match st with|⟨tm',hp'⟩=>ih (⟨s.i,o,v,.read M⟩ ::late) tm' hp' K)
      | .maker=>zaw s.loose late fun M=>zhe hp fun n=>zbe Γ o.op tm n fun v b=>match b with
        | .mk el ps=>zde M (.agg ps) (zem hp (.mk el ps) fun hp1=>zce Γ.nt tm hp1 o.dst v fun st=>match st with|⟨tm',hp'⟩=>ih (⟨s.i,o,v,.maker n⟩ ::addM n late) tm' hp' K)
        | .dead=>False
      | .anchor=>zaw s.loose late fun M=>zjf M hp fun hm=>za5 Γ o.op tm hm
          (fun v hp1=>zde M v (zcj M hp1 (zef hp M hp1 fun hp2=>zce Γ.nt tm hp2 o.dst v fun st=>match st with|⟨tm',hp'⟩=>reK Γ tm' hp' s.loose late (ih late tm' hp' K))))
          (fun hp1=>zcj M hp1 (zef hp M hp1 fun hp2=>match o.dst with
            |none=>reK Γ tm hp2 s.loose late (ih late tm hp2 K)
            |some _=>False)))
    (zce Γ.nt tm hp o.dst (.tup []) fun st=>match st with|⟨tm',hp'⟩=>ih (⟨s.i,o,.tup [],.pure⟩ ::late) tm' hp' K)) steps
theorem zwb (Γ:Ctx) (all:List Oper) (s:PStep) (ss:List PStep) (late:List Late) (tm:List (Nat×SV)) (hp:List Blk) (K:St→Prop):zc8 Γ all (s ::ss) late tm hp K=zdc all s.i fun o=>zia all o tm
    (match zak Γ o.op with
      | .pure=>xd Γ o.op tm fun v=>zaw s.loose late fun M=>zde M v (zce Γ.nt tm hp o.dst v fun st=>match st with|⟨tm',hp'⟩=>zc8 Γ all ss (⟨s.i,o,v,.pure⟩ ::late) tm' hp' K)
      | .read=>zaw s.loose late fun M=>zjf M hp fun hm=>zdo Γ o.op tm hm fun v=>zde M v (zce Γ.nt tm hp o.dst v fun st=>match st with|⟨tm',hp'⟩=>zc8 Γ all ss (⟨s.i,o,v,.read M⟩ ::late) tm' hp' K)
      | .maker=>zaw s.loose late fun M=>zhe hp fun n=>zbe Γ o.op tm n fun v b=>match b with
        | .mk el ps=>zde M (.agg ps) (zem hp (.mk el ps) fun hp1=>zce Γ.nt tm hp1 o.dst v fun st=>match st with|⟨tm',hp'⟩=>zc8 Γ all ss (⟨s.i,o,v,.maker n⟩ ::addM n late) tm' hp' K)
        | .dead=>False
      | .anchor=>zaw s.loose late fun M=>zjf M hp fun hm=>za5 Γ o.op tm hm
          (fun v hp1=>zde M v (zcj M hp1 (zef hp M hp1 fun hp2=>zce Γ.nt tm hp2 o.dst v fun st=>match st with|⟨tm',hp'⟩=>reK Γ tm' hp' s.loose late (zc8 Γ all ss late tm' hp' K))))
          (fun hp1=>zcj M hp1 (zef hp M hp1 fun hp2=>match o.dst with
            |none=>reK Γ tm hp2 s.loose late (zc8 Γ all ss late tm hp2 K)
            |some _=>False)))
    (zce Γ.nt tm hp o.dst (.tup []) fun st=>match st with|⟨tm',hp'⟩=>zc8 Γ all ss (⟨s.i,o,.tup [],.pure⟩ ::late) tm' hp' K):=rfl
def xe (o:Oper):List Nat:=(o.after.toList.filter (Region.binds .any)).map (·.on)
abbrev Table:=List (Nat×Nat)
def zne (T:Table) (i:Nat):Nat:=
  match T with
  | []=>0
  |(j,m) ::r=>if Nat.beq j i then m else zne r i
def zdl (T:Table):List Nat→Nat
  | []=>0
  |e ::es=>(Nat.lor (Nat.lor (Nat.shiftLeft 1 e) (zne T e)) (zdl T es))
def zoz (ops:Array Oper) (s:PStep) (o:Oper) (m:Nat):List PStep→Bool
  | []=>true
  |x ::xs=>(match zaj s.loose x.i with
     |true=>match ops[x.i]? with|some y=>y.apart ops o|none=>false
     |false=>Nat.testBit m x.i)&&zoz ops s o m xs
def ziz (ops:Array Oper) (Γ:Ctx) (L:List Nat):List PStep→List (Option Nat)→Bool
  | [],_=>true
  |x ::xs,ds=>(match ops[x.i]? with
     |some y=>(match zak Γ y.op,zaj L x.i with
      | .read,true=>(y.dst ::ds).all fun d=>match d with|some d=>!(y.looksAt ops).contains d|none=>true
      |_,_=>true)&&ziz ops Γ L xs (y.dst ::ds)
     |none=>false)
def zpd (i:Nat):List PStep→Bool
  | []=>false
  |x ::xs=>Nat.beq x.i i||zpd i xs
def zc6 (ops:Array Oper) (Γ:Ctx):List PStep→List PStep→Table→Bool
  |_,[],_=>true
  |pre,s ::ss,T=>match ops[s.i]? with
   |none=>false
   |some o=>
    let m:=zdl T (xe o)
    !zpd s.i pre&&(xe o).all (fun e=>zpd e pre)&&zoz ops s o m pre&&
    (match zak Γ o.op with
      | .anchor=>ss.all (fun t=>match ops[t.i]? with|some u=>(xe u).any fun e=>!zpd e pre|none=>false)&&ziz ops Γ s.loose pre [o.dst]
      |_=>true)&&zc6 ops Γ (s ::pre) ss ((s.i,m) ::T)
def zis (ops:Array Oper) (Γ:Ctx) (steps:List PStep):Bool:=
  Region.noSelect ops&&(List.range ops.size).all (fun i=>zpd i steps)&&zc6 ops Γ [] steps []
end Go.Sym

namespace Go.Sym
def mask:List Nat→List Blk→List Blk
  | [],hp=>hp
  |m ::M,hp=>mask M (hp.set m .dead)
theorem z9: ∀(M:List Nat) (hp:List Blk),(mask M hp).length=hp.length
  | [],_=>rfl
  |m ::M,hp=>by simp [mask,z9 M]
theorem zzs {hp:List Blk} {m k:Nat} {el:TypeId} {ps:List SV}:(hp.set m .dead)[k]?=some (.mk el ps)↔k≠m∧hp[k]?=some (.mk el ps):=by
  constructor
  ·intro h
   by_cases e:m=k
   ·subst e
    rw [List.getElem?_set] at h
    split at h
    ·split at h<;>cases h
    ·rename_i hne;exact absurd rfl hne
   ·rw [List.getElem?_set_ne e] at h;exact ⟨fun x=>e x.symm,h⟩
  ·rintro ⟨h1,h2⟩
   rw [List.getElem?_set_ne (fun e=>h1 e.symm)];exact h2
theorem yy {k:Nat} {el:TypeId} {ps:List SV}: ∀{M:List Nat} {hp:List Blk},(mask M hp)[k]?=some (.mk el ps)↔k∉M∧hp[k]?=some (.mk el ps)
  | [],hp=>by simp [mask]
  |m ::M,hp=>by
   rw [mask,yy,zzs]
   simp only [List.mem_cons,not_or]
   constructor
   ·rintro ⟨h1,h2,h3⟩;exact ⟨⟨h2,h1⟩,h3⟩
   ·rintro ⟨⟨h1,h2⟩,h3⟩;exact ⟨h2,h1,h3⟩
theorem zj0: ∀{M:List Nat} {hp:List Blk} {k:List Blk→Prop},zjf M hp k→k (mask M hp)
  | [],_,_,h=>h
  |m ::M,hp,k,h=>by
   exact zj0 (M:=M) (zc2 h).2
def zb1 (hp:List Blk):List Nat→List Blk→List Blk
  | [],hp'=>hp'
  |m ::M,hp'=>zb1 hp M (match hp[m]? with|some b=>hp'.set m b|none=>hp')
theorem zjr {hp:List Blk}: ∀{M:List Nat} {hp':List Blk} {k:List Blk→Prop},zef hp M hp' k→k (zb1 hp M hp')∧ ∀m∈M,m<hp.length∧m<hp'.length
  | [],_,_,h=>⟨h,by simp⟩
  |m ::M,hp',k,h=>by
   obtain ⟨b,h1,h2⟩:=zb0 h
   obtain ⟨h3,h4⟩:=zc2 h2
   obtain ⟨h5,h6⟩:=zjr h4
   refine ⟨by rw [zb1,h1];exact h5,fun x hx=>?_⟩
   rcases List.mem_cons.1 hx with rfl|hx
   ·exact ⟨(List.getElem?_eq_some_iff.1 h1).1,h3⟩
   ·have:=h6 x hx;simpa using this
theorem zgb {hp:List Blk}: ∀{M:List Nat} {hp':List Blk},(zb1 hp M hp').length=hp'.length
  | [],_=>rfl
  |m ::M,hp'=>by
   rw [zb1,zgb]
   split<;>simp
theorem zlu {hp:List Blk} {k:Nat}: ∀{M:List Nat} {hp':List Blk},(∀m∈M,m<hp.length∧m<hp'.length)→(zb1 hp M hp')[k]?=if k∈M then hp[k]? else hp'[k]?
  | [],_,_=>by simp [zb1]
  |m ::M,hp',h=>by
   obtain ⟨h1,h2⟩:=h m (by simp)
   rw [zb1,List.getElem?_eq_getElem h1]
   dsimp only
   rw [zlu (fun x hx=>by have:=h x (by simp [hx]);simpa using this)]
   by_cases hk:k∈M
   ·simp [hk]
   ·by_cases e:k=m
    ·subst e;simp [hk,h2,List.getElem?_eq_getElem h1]
    ·rw [List.getElem?_set_ne (fun x=>e x.symm)];simp [hk,e]
theorem zoi {M:List Nat}: ∀{l:List Nat},zp9 M l=true→ ∀x∈l,x∉M
  | [],_=>by simp
  |y ::ys,h=>by
   simp only [zp9] at h
   split at h
   ·cases h
   ·rename_i he
    intro x hx
    rcases List.mem_cons.1 hx with rfl|hx
    ·exact fun hm=>by rw [x1.2 hm] at he;cases he
    ·exact zoi h x hx
theorem SV.ok_of_ks {p q:Nat→Prop}: ∀v:SV,v.ok p→(∀x∈v.ks,q x)→v.ok q:=by
  intro v
  refine SV.rec (motive_1:=fun v=>v.ok p→(∀x∈v.ks,q x)→v.ok q) (motive_2:=fun vs=>okL p vs→(∀x∈ksL vs,q x)→okL q vs)
    ?_ ?_ ?_ ?_ ?_ ?_ ?_ ?_ ?_ ?_ ?_ ?_ ?_ ?_ ?_ ?_ ?_ ?_ ?_ ?_ ?_ ?_ ?_ ?_ ?_ ?_ ?_ v
  case refine_26=>intro _ _;trivial
  case refine_27=>
    intro v vs ihv ihs h hx
    exact ⟨ihv h.1 (fun x h=>hx x (by simp [ksL,h])),ihs h.2 (fun x h=>hx x (by simp [ksL,h]))⟩
  all_goals first
    |(intros;rename_i h hx;first|exact h|exact hx _ (by simp [SV.ks])|trivial)
    |(intro ps ih h hx;exact ih h (by simpa [SV.ks] using hx))
    |(intro a ps ih h hx;exact ih h (by simpa [SV.ks] using hx))
theorem zto {p q:Nat→Prop} {vs:List SV} (h:okL p vs) (hx: ∀x∈ksL vs,q x):okL q vs:=by
  have:=SV.ok_of_ks (p:=p) (q:=q) (.agg vs) h (by simpa [SV.ks] using hx)
  exact this
theorem SV.ok_and {p q r:Nat→Prop} (hr: ∀x,p x→q x→r x): ∀v:SV,v.ok p→v.ok q→v.ok r:=by
  intro v
  refine SV.rec (motive_1:=fun v=>v.ok p→v.ok q→v.ok r) (motive_2:=fun vs=>okL p vs→okL q vs→okL r vs)
    ?_ ?_ ?_ ?_ ?_ ?_ ?_ ?_ ?_ ?_ ?_ ?_ ?_ ?_ ?_ ?_ ?_ ?_ ?_ ?_ ?_ ?_ ?_ ?_ ?_ ?_ ?_ v
  case refine_26=>intro _ _;trivial
  case refine_27=>
    intro v vs ihv ihs h h'
    exact ⟨ihv h.1 h'.1,ihs h.2 h'.2⟩
  all_goals first
    |(intros;rename_i h h';first|exact h|exact hr _ h h'|trivial)
    |(intro ps ih h h';exact ih h h')
    |(intro a ps ih h h';exact ih h h')
theorem z24 {p q r:Nat→Prop} (hr: ∀x,p x→q x→r x) {vs:List SV} (h:okL p vs) (h':okL q vs):okL r vs:=SV.ok_and hr (.agg vs) h h'
theorem zjs {q:Nat→Prop} {M:List Nat} {v:SV} {p:Prop} (hv:v.ok q) (h:zde M v p):v.ok (· ∉M)∧p:=by
  unfold zde at h
  split at h
  ·exact ⟨SV.ok_mono (fun _ _=>by simp) v hv,h⟩
  ·split at h
   ·rename_i e
    exact ⟨SV.ok_of_ks v hv (zoi e),h⟩
   ·exact h.elim
theorem zhn {M:List Nat} {p:Prop}: ∀{hp:List Blk},zcj M hp p→p∧ ∀(k:Nat) (el:TypeId) (ps:List SV) (q:Nat→Prop),hp[k]?=some (.mk el ps)→okL q ps→okL (· ∉M) ps
  | [],h=>⟨h,fun k el ps q hk _=>by simp at hk⟩
  |b ::bs,h=>by
   unfold zcj at h
   split at h
   ·exact ⟨h,fun k el ps q hk ho=>ym (fun _ _=>by simp) _ ho⟩
   ·split at h
    ·obtain ⟨h1,h2⟩:=zhn h
     refine ⟨h1,fun k el ps q hk ho=>?_⟩
     cases k with
     |zero=>simp at hk
     |succ k=>exact h2 k el ps q (by simpa using hk) ho
    ·split at h
     ·rename_i el' qs e
      obtain ⟨h1,h2⟩:=zhn h
      refine ⟨h1,fun k el ps q hk ho=>?_⟩
      cases k with
      |zero=>simp at hk;obtain ⟨rfl,rfl⟩:=hk;exact zto ho (zoi e)
      |succ k=>exact h2 k el ps q (by simpa using hk) ho
     ·exact h.elim
theorem zf7 {M:List Nat} {p q:Prop}: ∀{hp:List Blk},zcj M hp p→(p→q)→zcj M hp q
  | [],h,f=>f h
  |b ::bs,h,f=>by
   unfold zcj at h ⊢
   split
   ·exact f h
   ·split
    ·exact zf7 h f
    ·rename_i el qs
     dsimp only at h
     split at h
     ·exact zf7 h f
     ·exact h.elim
theorem zif {hp:List Blk}: ∀{M:List Nat} {hp':List Blk} {k k':List Blk→Prop},zef hp M hp' k→(∀l,k l→k' l)→zef hp M hp' k'
  | [],_,_,_,h,f=>f _ h
  |m ::M,hp',k,k',h,f=>by
   have nth: ∀{l:List Blk} {i:Nat} {g g':Blk→Prop},zdc l i g→(∀b,g b→g' b)→zdc l i g':=by
     intro l
     induction l with
     |nil=>intro i g g' h _;exact h
     |cons x xs ih=>
      intro i g g' h hg
      cases i with
      |zero=>exact hg _ h
      |succ i=>exact ih (i:=i) h hg
   have set: ∀{l:List Blk} {i:Nat} {b:Blk} {g g':List Blk→Prop},zha l i b g→(∀l,g l→g' l)→zha l i b g':=by
     intro l
     induction l with
     |nil=>intro i b g g' h _;exact h
     |cons x xs ih=>
      intro i b g g' h hg
      cases i with
      |zero=>exact hg _ h
      |succ i=>exact ih (g:=fun l=>g (x ::l)) (g':=fun l=>g' (x ::l)) h (fun l hl=>hg _ hl)
   exact nth (i:=m) h fun b hb=>set hb fun l hl=>zif (M:=M) hl f
section
variable {ρ:Nat→Nat} {hp:List Blk} {w:World}
theorem HpRel.sub (h:HpRel ρ hp w) {hp':List Blk} (hs: ∀(k:Nat) el ps,hp'[k]?=some (Blk.mk el ps)→hp[k]?=some (.mk el ps)∧okL (· <hp'.length) ps):HpRel ρ hp' w:=
  ⟨fun k el ps hk=>⟨(hs k el ps hk).2,(h.mem k el ps (hs k el ps hk).1).2⟩,fun k k' el ps el' ps' h1 h2 he=>h.inj k k' _ _ _ _ (hs k el ps h1).1 (hs k' el' ps' h2).1 he⟩
theorem HpRel.mask (h:HpRel ρ hp w) (M:List Nat):HpRel ρ (mask M hp) w:=
  h.sub fun k el ps hk=>by
    rw [yy] at hk
    exact ⟨hk.2,by rw [z9];exact (h.mem k el ps hk.2).1⟩
variable {ρ0:Nat→Nat} {hp0:List Blk} {w0:World}
theorem Step.grow (h:Step ρ0 hp0 w0 ρ hp w):Step ρ0 hp0 w0 ρ (hp++ [.dead]) w:=by
  have old: ∀(k:Nat) el ps,(hp++ [Blk.dead])[k]?=some (Blk.mk el ps)→hp[k]?=some (.mk el ps):=fun k el ps hk=>by
    rcases Nat.lt_trichotomy k hp.length with hl|rfl|hl
    ·rwa [List.getElem?_append_left hl] at hk
    ·simp at hk
    ·rw [List.getElem?_eq_none (by simp;omega)] at hk;cases hk
  refine ⟨h.rel.sub fun k el ps hk=>⟨old k el ps hk,?_⟩,h.same,by have:=h.le;simp;omega,h.ext,?_⟩
  ·exact ym (fun x hx=>by simp;omega) _ (h.rel.mem k el ps (old k el ps hk)).1
  ·rintro b ⟨k,el,ps,hk,rfl⟩
   exact h.foot _ ⟨k,el,ps,old k el ps hk,rfl⟩
def upd (ρ:Nat→Nat) (n b:Nat):Nat→Nat:=fun k=>if k=n then b else ρ k
theorem Step.place (h:Step ρ0 hp0 w0 ρ hp w) {b:Nat} (hb:hp0.length≤b) (hbl:b<hp.length) (hd: ∀el ps,hp[b]?≠some (.mk el ps)) {el el0:TypeId} {ps:List SV} (hps:okL (· <hp.length) ps) (hpb:okL (· ≠b) ps)
    (hav: ∀(k:Nat) el ps,hp[k]?=some (Blk.mk el ps)→okL (· ≠b) ps) {hp':List Blk} (hl:hp'.length=hp.length)
    (hg: ∀(k:Nat) el' qs,hp'[k]?=some (Blk.mk el' qs)→k≠b∧hp[k]?=some (.mk el' qs)∨k=b∧el'=el∧qs=ps):
    Step ρ0 hp0 w0 (upd ρ b w.heap.size) hp' (w.alloc (.cells (zm ρ ps).toArray el0)):=by
  have hc: ∀qs:List SV,okL (· ≠b) qs→zm (upd ρ b w.heap.size) qs=zm ρ qs:=fun qs hq=>
    xb (p:=(· ≠b)) (fun k hk=>by simp [upd,hk]) qs hq
  have hne: ∀k,k≠b→upd ρ b w.heap.size k=ρ k:=fun k hk=>by simp [upd,hk]
  have hself:upd ρ b w.heap.size b=w.heap.size:=by simp [upd]
  refine ⟨⟨?_,?_⟩,fun k hk=>by rw [hne k (by omega)];exact h.same k hk,by rw [hl];exact h.le,⟨?_,?_,h.ext.os,h.ext.out,h.ext.tape⟩,?_⟩
  ·intro k el' qs hk
   rw [hl]
   rcases hg k el' qs hk with ⟨hkb,hk'⟩|⟨rfl,rfl,rfl⟩
   ·obtain ⟨h1,el2,fz,h2,h3⟩:=h.rel.mem k el' qs hk'
    refine ⟨h1,el2,fz,?_,?_⟩
    ·rw [hne k hkb,hc _ (hav k el' qs hk')]
     simp only [World.alloc]
     rw [Array.getElem?_push,if_neg (Nat.ne_of_lt (h.rel.lt hk')),h2]
    ·rw [hc _ (hav k el' qs hk')];exact h3
   ·refine ⟨hps,el0,(0,0),?_,.inl (Nat.le_refl _)⟩
    rw [hself,hc _ hpb]
    show (w.heap.push _)[w.heap.size]?=_
    simp
  ·intro k k' el1 ps1 el2 ps2 h1 h2 he
   rcases hg k el1 ps1 h1 with ⟨hk,hk'⟩|⟨rfl,_,_⟩<;>rcases hg k' el2 ps2 h2 with ⟨hj,hj'⟩|⟨rfl,_,_⟩
   ·rw [hne k hk,hne k' hj] at he;exact h.rel.inj k k' _ _ _ _ hk' hj' he
   ·rw [hne k hk,hself] at he;exact absurd he (Nat.ne_of_lt (h.rel.lt hk'))
   ·rw [hne k' hj,hself] at he;exact absurd he.symm (Nat.ne_of_lt (h.rel.lt hj'))
   ·rfl
  ·show w0.heap.size≤(w.heap.push _).size
   rw [Array.size_push];exact Nat.le_succ_of_le h.ext.size
  ·intro x hx hn
   simp only [World.alloc]
   rw [Array.getElem?_push,if_neg (Nat.ne_of_lt (Nat.lt_of_lt_of_le hx h.ext.size))]
   exact h.ext.keep x hx hn
  ·rintro x ⟨k,el',qs,hk,rfl⟩
   rcases hg k el' qs hk with ⟨hkb,hk'⟩|⟨rfl,_,_⟩
   ·rw [hne k hkb];exact h.foot _ ⟨k,el',qs,hk',rfl⟩
   ·rw [hself];exact .inr h.ext.size
theorem Step.through {M D:List Nat} (hD: ∀x∈D,x∈M) (hM: ∀m∈M,m<hp.length) (S:Step ρ0 hp0 w0 ρ (Sym.mask D hp) w) {ρ':Nat→Nat} {hp1:List Blk} {w':World} (T:Step ρ (Sym.mask M hp) w ρ' hp1 w')
    {hp2:List Blk} (hl:hp2.length=hp1.length) (hg: ∀k:Nat,hp2[k]?=if k∈M then hp[k]? else hp1[k]?):Step ρ0 hp0 w0 ρ' (Sym.mask D hp2) w':=by
  have hle:hp.length≤hp1.length:=by have:=T.le;rwa [z9] at this
  have hsame: ∀k,k<hp.length→ρ' k=ρ k:=fun k hk=>T.same k (by rwa [z9])
  have kinds: ∀(k:Nat) el ps,(Sym.mask D hp2)[k]?=some (Blk.mk el ps)→(k∈M∧k<hp.length∧(Sym.mask D hp)[k]?=some (.mk el ps))∨(k∉M∧hp1[k]?=some (.mk el ps)):=by
    intro k el ps hk
    rw [yy] at hk
    obtain ⟨h1,h2⟩:=hk
    rw [hg] at h2
    by_cases hm:k∈M
    ·rw [if_pos hm] at h2;exact .inl ⟨hm,hM k hm,yy.2 ⟨h1,h2⟩⟩
    ·rw [if_neg hm] at h2;exact .inr ⟨hm,h2⟩
  have up: ∀(k:Nat) el ps,(Sym.mask M hp)[k]?=some (Blk.mk el ps)→(Sym.mask D hp)[k]?=some (.mk el ps):=fun k el ps hk=>by
    rw [yy] at hk ⊢
    exact ⟨fun h=>hk.1 (hD k h),hk.2⟩
  have apart: ∀(k:Nat) el ps (k':Nat) el' ps',k∈M→(Sym.mask D hp)[k]?=some (Blk.mk el ps)→hp1[k']?=some (Blk.mk el' ps')→ρ k≠ρ' k':=by
    intro k el ps k' el' ps' hk h1 h2 he
    rcases T.foot (ρ' k') ⟨k',el',ps',h2,rfl⟩ with ⟨j,e,q,hj,hje⟩|hlt
    ·have:j=k:=S.rel.inj j k _ _ _ _ (up j e q hj) h1 (by rw [hje,he])
     subst this
     exact (yy.1 hj).1 hk
    ·have:=S.rel.lt h1;omega
  refine ⟨⟨?_,?_⟩,fun k hk=>?_,?_,?_,?_⟩
  ·intro k el ps hk
   rw [z9,hl]
   rcases kinds k el ps hk with ⟨hm,hkl,hk'⟩|⟨hm,hk'⟩
   ·obtain ⟨h1,el2,fz,h2,h3⟩:=S.rel.mem k el ps hk'
    rw [z9] at h1
    have hc:zm ρ' ps=zm ρ ps:=xb (p:=(· <hp.length)) (fun x hx=>hsame x hx) ps h1
    refine ⟨ym (fun x hx=>Nat.lt_of_lt_of_le hx hle) _ h1,el2,fz,?_,by rw [hc];exact h3⟩
    rw [hsame k hkl,hc,T.ext.keep _ (S.rel.lt hk'),h2]
    rintro ⟨j,e,q,hj,hje⟩
    have:j=k:=S.rel.inj j k _ _ _ _ (up j e q hj) hk' hje
    subst this
    exact (yy.1 hj).1 hm
   ·exact T.rel.mem k el ps hk'
  ·intro k k' el1 ps1 el2 ps2 h1 h2 he
   rcases kinds k el1 ps1 h1 with ⟨hm,hkl,hk'⟩|⟨hm,hk'⟩<;>rcases kinds k' el2 ps2 h2 with ⟨hn,hjl,hj'⟩|⟨hn,hj'⟩
   ·rw [hsame k hkl,hsame k' hjl] at he;exact S.rel.inj k k' _ _ _ _ hk' hj' he
   ·rw [hsame k hkl] at he;exact absurd he (apart k _ _ k' _ _ hm hk' hj')
   ·rw [hsame k' hjl] at he;exact absurd he.symm (apart k' _ _ k _ _ hn hj' hk')
   ·exact T.rel.inj k k' _ _ _ _ hk' hj' he
  ·have:k<hp.length:=by have:=S.le;rw [z9] at this;omega
   rw [hsame k this];exact S.same k hk
  ·have:=S.le;rw [z9] at this ⊢;omega
  ·refine S.ext.trans T.ext fun b hb=>?_
   obtain ⟨k,el,ps,hk,rfl⟩:=hb
   exact S.foot _ ⟨k,el,ps,up k el ps hk,rfl⟩
  ·rintro b ⟨k,el,ps,hk,rfl⟩
   rcases kinds k el ps hk with ⟨hm,hkl,hk'⟩|⟨hm,hk'⟩
   ·rw [hsame k hkl];exact S.foot _ ⟨k,el,ps,hk',rfl⟩
   ·rcases T.foot (ρ' k) ⟨k,el,ps,hk',rfl⟩ with ⟨j,e,q,hj,hje⟩|hlt
    ·rw [←hje];exact S.foot _ ⟨j,e,q,up j e q hj,rfl⟩
    ·exact .inr (Nat.le_trans S.ext.size hlt)
end
end Go.Sym

namespace Go.Sym
section
variable {P:Program} {Γ:Ctx} {ops:Array Oper}
def zfo (n:Nat) (tm:List (Nat×SV)):Prop:= ∀t v,yw tm t=some v→v.ok (· <n)
theorem TmRel.okay {nt n:Nat} {ρ:Nat→Nat} {tm:List (Nat×SV)} {a:Act} (h:TmRel nt ρ n tm a):zfo n tm:=fun t v hv=>(h.val t v hv).1
theorem zfo.mono {n m:Nat} {tm:List (Nat×SV)} (h:zfo n tm) (hm:n≤m):zfo m tm:=fun t v hv=>SV.ok_mono (fun _ hk=>Nat.lt_of_lt_of_le hk hm) v (h t v hv)
theorem TmRel.down' {nt n m:Nat} {ρ:Nat→Nat} {tm:List (Nat×SV)} {a:Act} (h:TmRel nt ρ n tm a) (hm:n≤m):TmRel nt ρ m tm a:=
  ⟨h.size,h.defers,fun t v hv=>⟨SV.ok_mono (fun _ hk=>Nat.lt_of_lt_of_le hk hm) v (h.val t v hv).1,(h.val t v hv).2⟩⟩
theorem TmRel.down {nt n m:Nat} {ρ:Nat→Nat} {tm:List (Nat×SV)} {a:Act} (h:TmRel nt ρ m tm a) (hk:zfo n tm):TmRel nt ρ n tm a:=
  ⟨h.size,h.defers,fun t v hv=>⟨hk t v hv,(h.val t v hv).2⟩⟩
theorem TmRel.same {nt n:Nat} {ρ:Nat→Nat} {tm tm':List (Nat×SV)} {a:Act} (h:TmRel nt ρ n tm a) (hk: ∀t,yw tm' t=yw tm t):TmRel nt ρ n tm' a:=
  ⟨h.size,h.defers,fun t v hv=>h.val t v (by rw [←hk];exact hv)⟩
def zai (tm:List (Nat×SV)) (d:Option Nat) (v:SV):List (Nat×SV):=
  match d with
  |some d=>(d,v) ::tm
  |none=>tm
theorem y6 {tm:List (Nat×SV)} {d:Option Nat} {v:SV} {t:Nat}:yw (zai tm d v) t=if d=some t then some v else yw tm t:=by
  cases d with
  |none=>simp [zai]
  |some d=>simp [zai,yw]
theorem zih {tm tm':List (Nat×SV)} (h: ∀t,yw tm t=yw tm' t) (d:Option Nat) (v:SV): ∀t,yw (zai tm d v) t=yw (zai tm' d v) t:=fun t=>by
  rw [y6,y6,h]
theorem zfo.put {n:Nat} {tm:List (Nat×SV)} (h:zfo n tm) {d:Option Nat} {v:SV} (hv:v.ok (· <n)):zfo n (zai tm d v):=fun t u hu=>by
  rw [y6] at hu
  split at hu
  ·cases hu;exact hv
  ·exact h t u hu
theorem TmRel.put {nt n:Nat} {ρ:Nat→Nat} {tm:List (Nat×SV)} {a:Act} (h:TmRel nt ρ n tm a) {d:Option Nat} {v:SV} (hd: ∀x,d=some x→x<nt) (hv:v.ok (· <n)):
    TmRel nt ρ n (zai tm d v) (a.put d (v.den ρ)):=by
  cases d with
  |none=>exact h
  |some d=>
   refine ⟨by simp [Act.put,h.size],h.defers,fun t u hu=>?_⟩
   rw [y6] at hu
   split at hu
   ·rename_i e;cases e;cases hu
    exact ⟨hv,by simp [Act.put,h.size,hd d rfl]⟩
   ·rename_i e
    obtain ⟨g1,g2⟩:=h.val t u hu
    exact ⟨g1,by simp only [Act.put];rw [Array.getElem?_setIfInBounds_ne (fun x=>e (by rw [x]))];exact g2⟩
theorem zcw {nt:Nat} {tm:List (Nat×SV)} {hp:List Blk} {d:Option Nat} {v:SV} {K:St→Prop} (h:zce nt tm hp d v K):(∀x,d=some x→x<nt)∧K ⟨zai tm d v,hp⟩:=by
  unfold zce at h
  split at h
  ·split at h
   ·rename_i d _ e
    exact ⟨fun x hx=>by cases hx;exact Nat.le_of_ble_eq_true e,h⟩
   ·exact h.elim
  ·exact ⟨fun x hx=>(by cases hx),h⟩
theorem TmRel.unput {nt n:Nat} {ρ:Nat→Nat} {tm:List (Nat×SV)} {a:Act} {d:Option Nat} {v:SV} (h:TmRel nt ρ n (zai tm d v) a) (hk:zfo n tm): ∃u,TmRel nt ρ n tm (a.put d u):=by
  cases d with
  |none=>exact ⟨.bool true,h⟩
  |some d=>
   cases hu:yw tm d with
   |none=>
    refine ⟨.bool true,by simp [Act.put,h.size],h.defers,fun t u ht=>?_⟩
    have hne:d≠t:=fun e=>by rw [←e,hu] at ht;cases ht
    refine ⟨hk t u ht,?_⟩
    simp only [Act.put]
    rw [Array.getElem?_setIfInBounds_ne hne]
    exact (h.val t u (by rw [y6,if_neg (fun e=>hne (Option.some.inj e))];exact ht)).2
   |some x=>
    have hd:d<nt:=by
      have:=(h.val d v (by rw [y6,if_pos rfl])).2
      have:=(Array.getElem?_eq_some_iff.1 this).1
      rwa [h.size] at this
    refine ⟨x.den ρ,by simp [Act.put,h.size],h.defers,fun t u ht=>⟨hk t u ht,?_⟩⟩
    by_cases hne:d=t
    ·subst hne
     rw [hu] at ht;cases ht
     simp [Act.put,h.size,hd]
    ·simp only [Act.put]
     rw [Array.getElem?_setIfInBounds_ne hne]
     exact (h.val t u (by rw [y6,if_neg (fun e=>hne (Option.some.inj e))];exact ht)).2
def zgc (Γ:Ctx) (ops:Array Oper) (n:Nat) (o:Oper) (tm:List (Nat×SV)):Prop:= ∀ρ a,TmRel Γ.nt ρ n tm a→Region.wanted o (yielded ops a.tmps)=true
def zaa (P:Program) (Γ:Ctx) (ops:Array Oper) (hp:List Blk) (x:Late) (tm:List (Nat×SV)):Prop:=
  match x.k with
  | .pure=> ∀ρ a,TmRel Γ.nt ρ hp.length tm a→Yields P ops x.o (x.v.den ρ) a
  | .read M=>zgc Γ ops hp.length x.o tm∧ ∀ρ a w,TmRel Γ.nt ρ hp.length tm a→HpRel ρ (mask M hp) w→Γ.E w→(execOp a.eval x.o).run P w= .ok (.value (x.v.den ρ)) w
  | .maker b=>zgc Γ ops hp.length x.o tm∧ ∃el ps,hp[b]?=some (.mk el ps)∧okL (· <hp.length) ps∧x.v.ok (· =b)∧okL (· ≠b) ps∧
      ∀ρ a,TmRel Γ.nt ρ hp.length tm a→ ∀(ρ1:Nat→Nat) w,ρ1 b=w.heap.size→(execOp a.eval x.o).run P w= .ok (.value (x.v.den ρ1)) (w.alloc (.cells (zm ρ ps).toArray el))
variable {hp:List Blk}
theorem zaa.same {x:Late} {tm tm':List (Nat×SV)} (h:zaa P Γ ops hp x tm) (he: ∀t,yw tm t=yw tm' t):zaa P Γ ops hp x tm':=by
  unfold zaa zgc at*
  split
  all_goals rename_i hk;simp only [hk] at h
  ·exact fun ρ a ht=>h ρ a (ht.same he)
  ·exact ⟨fun ρ a ht=>h.1 ρ a (ht.same he),fun ρ a w ht=>h.2 ρ a w (ht.same he)⟩
  ·obtain ⟨h0,el,ps,h1,h2,h3,h5,h4⟩:=h
   exact ⟨fun ρ a ht=>h0 ρ a (ht.same he),el,ps,h1,h2,h3,h5,fun ρ a ht=>h4 ρ a (ht.same he)⟩
theorem zaa.move {x:Late} {tm tm':List (Nat×SV)} (h:zaa P Γ ops hp x tm) (hs: ∀cs b,x.o.op≠ .select cs b)
    (hm: ∀(ρ:Nat→Nat) a,TmRel Γ.nt ρ hp.length tm' a→ ∃(d:Option Nat) (u:Value),(∀y,d=some y→y∉x.o.looksAt ops)∧TmRel Γ.nt ρ hp.length tm (a.put d u)):zaa P Γ ops hp x tm':=by
  unfold zaa zgc at*
  have ex: ∀(a:Act) (d:Option Nat) (u:Value),(∀y,d=some y→y∉x.o.looksAt ops)→execOp (a.put d u).eval x.o=execOp a.eval x.o∧Region.wanted x.o (yielded ops (a.put d u).tmps)=Region.wanted x.o (yielded ops a.tmps):=
    fun a d u hd=>⟨execOp_put x.o hs a d u hd,wanted_put x.o a d u hd⟩
  split
  all_goals rename_i hk;simp only [hk] at h
  ·intro ρ a ht
   obtain ⟨d,u,hd,ht'⟩:=hm ρ a ht
   exact (h ρ _ ht').of_same (ex a d u hd).1.symm (ex a d u hd).2.symm
  ·refine ⟨fun ρ a ht=>?_,fun ρ a w ht hw hE=>?_⟩
   ·obtain ⟨d,u,hd,ht'⟩:=hm ρ a ht
    rw [←(ex a d u hd).2];exact h.1 ρ _ ht'
   ·obtain ⟨d,u,hd,ht'⟩:=hm ρ a ht
    rw [←(ex a d u hd).1];exact h.2 ρ _ w ht' hw hE
  ·obtain ⟨h0,el,ps,h1,h2,h3,h5,h4⟩:=h
   refine ⟨fun ρ a ht=>?_,el,ps,h1,h2,h3,h5,fun ρ a ht=>?_⟩
   ·obtain ⟨d,u,hd,ht'⟩:=hm ρ a ht
    rw [←(ex a d u hd).2];exact h0 ρ _ ht'
   ·obtain ⟨d,u,hd,ht'⟩:=hm ρ a ht
    rw [←(ex a d u hd).1];exact h4 ρ _ ht'
theorem zaa.back {x:Late} {tm:List (Nat×SV)} {d:Option Nat} {v:SV} (h:zaa P Γ ops hp x (zai tm d v)) (hs: ∀cs b,x.o.op≠ .select cs b) (hd: ∀y,d=some y→y∉x.o.looksAt ops)
    (hn: ∀y,d=some y→y<Γ.nt) (hv:v.ok (· <hp.length)):zaa P Γ ops hp x tm:=
  h.move hs fun ρ _ ht=>⟨d,v.den ρ,hd,ht.put hn hv⟩
theorem zaa.forth {x:Late} {tm:List (Nat×SV)} {d:Option Nat} {v:SV} (h:zaa P Γ ops hp x tm) (hs: ∀cs b,x.o.op≠ .select cs b) (hd: ∀y,d=some y→y∉x.o.looksAt ops)
    (hk:zfo hp.length tm):zaa P Γ ops hp x (zai tm d v):=
  h.move hs fun _ _ ht=>by obtain ⟨u,hu⟩:=ht.unput hk;exact ⟨d,u,hd,hu⟩
def xt (P:Program) (Γ:Ctx) (ops:Array Oper) (hp:List Blk):List (Nat×SV)→List Late→List (Nat×SV)→Prop
  |tm,[],tm'=> ∀t,yw tm t=yw tm' t
  |tm,x ::xs,tm'=>zaa P Γ ops hp x tm∧x.v.ok (· <hp.length)∧(∀d,x.o.dst=some d→d<Γ.nt)∧xt P Γ ops hp (zai tm x.o.dst x.v) xs tm'
theorem xt.same: ∀{xs:List Late} {tm tm1 tm':List (Nat×SV)},xt P Γ ops hp tm xs tm'→(∀t,yw tm t=yw tm1 t)→xt P Γ ops hp tm1 xs tm'
  | [],_,_,_,h,he=>fun t=>by rw [←he];exact h t
  |_ ::_,_,_,_,⟨h1,h2,h3,h4⟩,he=>⟨h1.same he,h2,h3,xt.same h4 (zih he _ _)⟩
theorem xt.snoc: ∀{xs:List Late} {tm tm':List (Nat×SV)} {x:Late},xt P Γ ops hp tm xs tm'→zaa P Γ ops hp x tm'→x.v.ok (· <hp.length)→(∀d,x.o.dst=some d→d<Γ.nt)→
    xt P Γ ops hp tm (xs++ [x]) (zai tm' x.o.dst x.v)
  | [],_,_,_,h,hf,hv,hd=>⟨hf.same fun t=>(h t).symm,hv,hd,zih h _ _⟩
  |_ ::_,_,_,_,⟨h1,h2,h3,h4⟩,hf,hv,hd=>⟨h1,h2,h3,xt.snoc h4 hf hv hd⟩
theorem xt.bubble (hs: ∀(j:Nat) (o:Oper) cs b,ops[j]?=some o→o.op≠ .select cs b) {x:Late} (hx:ops[x.i]?=some x.o) {B:List Late}: ∀{A:List Late} {tm tm':List (Nat×SV)},xt P Γ ops hp tm (A++x ::B) tm'→zfo hp.length tm→
    (∀y∈A,ops[y.i]?=some y.o∧y.o.apart ops x.o=true)→xt P Γ ops hp tm (x ::(A++B)) tm'
  | [],_,_,h,_,_=>h
  |y ::A,tm,tm',⟨h1,h2,h3,h4⟩,hk,hA=>by
   obtain ⟨g1,g2,g3,g4⟩:=xt.bubble hs hx h4 (hk.put h2) (fun z hz=>hA z (by simp [hz]))
   obtain ⟨hy,hap⟩:=hA y (by simp)
   obtain ⟨p1,p2,p3⟩:=Oper.apart_spec hap
   refine ⟨g1.back (fun cs b=>hs _ _ cs b hx) p1 h3 h2,g2,g3,h1.forth (fun cs b=>hs _ _ cs b hy) p3 hk,h2,h3,g4.same fun t=>?_⟩
   rw [y6,y6,y6,y6]
   by_cases e1:x.o.dst=some t
   ·have:y.o.dst≠some t:=fun e=>p2 t e e1
    rw [if_pos e1,if_neg this,if_pos e1]
   ·simp [e1]
def z1g (tm:List (Nat×SV)):List Late→List (Nat×SV)
  | []=>tm
  |x ::xs=>z1g (zai tm x.o.dst x.v) xs
theorem xt.end_: ∀{xs:List Late} {tm tm':List (Nat×SV)},xt P Γ ops hp tm xs tm'→ ∀t,yw (z1g tm xs) t=yw tm' t
  | [],_,_,h=>h
  |_ ::xs,_,_,⟨_,_,_,h4⟩=>xt.end_ (xs:=xs) h4
theorem zaa.backs {hp':List Blk} (hle:hp.length≤hp'.length) {x:Late} (hs: ∀cs b,x.o.op≠ .select cs b): ∀{xs:List Late} {tm tm':List (Nat×SV)},xt P Γ ops hp tm xs tm'→zaa P Γ ops hp' x (z1g tm xs)→
    (∀y∈xs,∀d,y.o.dst=some d→d∉x.o.looksAt ops)→zaa P Γ ops hp' x tm
  | [],_,_,_,h,_=>h
  |y ::xs,tm,tm',⟨h1,h2,h3,h4⟩,h,hd=>
   (zaa.backs hle hs h4 h (fun z hz=>hd z (by simp [hz]))).back hs (hd y (by simp)) h3 (SV.ok_mono (fun _ hk=>Nat.lt_of_lt_of_le hk hle) _ h2)
theorem zaa.later {hp':List Blk} (hle:hp.length≤hp'.length) {x:Late} {tm:List (Nat×SV)} (h:zaa P Γ ops hp x tm) (hk:zfo hp.length tm)
    (hb: ∀b,x.k= .maker b→hp'[b]?=hp[b]?)
    (hr: ∀M,x.k= .read M→ ∀ρ a w,TmRel Γ.nt ρ hp'.length tm a→HpRel ρ (mask M hp') w→Γ.E w→(execOp a.eval x.o).run P w= .ok (.value (x.v.den ρ)) w):zaa P Γ ops hp' x tm:=by
  unfold zaa zgc at*
  split
  all_goals rename_i hk';simp only [hk'] at h
  ·exact fun ρ a ht=>h ρ a (ht.down hk)
  ·exact ⟨fun ρ a ht=>h.1 ρ a (ht.down hk),hr _ hk'⟩
  ·obtain ⟨h0,el,ps,h1,h2,h3,h5,h4⟩:=h
   exact ⟨fun ρ a ht=>h0 ρ a (ht.down hk),el,ps,by rw [hb _ hk',h1],ym (fun _ h=>Nat.lt_of_lt_of_le h hle) _ h2,h3,h5,fun ρ a ht=>h4 ρ a (ht.down hk)⟩
theorem xt.anchor (hs: ∀(j:Nat) (o:Oper) cs b,ops[j]?=some o→o.op≠ .select cs b) {hp':List Blk} (hle:hp.length≤hp'.length) {d:Option Nat} {v:SV} {o:Oper} (hd:o.dst=d) (hn: ∀y,d=some y→y<Γ.nt) (hv:v.ok (· <hp'.length)):
    ∀{xs:List Late} {tm tm':List (Nat×SV)},xt P Γ ops hp tm xs tm'→zfo hp.length tm→(∀x∈xs,ops[x.i]?=some x.o∧x.o.apart ops o=true)→
    (∀x∈xs,∀b,x.k= .maker b→hp'[b]?=hp[b]?)→
    (∀x∈xs,∀M,x.k= .read M→ ∀ρ a w,TmRel Γ.nt ρ hp'.length (zai tm' d v) a→HpRel ρ (mask M hp') w→Γ.E w→(execOp a.eval x.o).run P w= .ok (.value (x.v.den ρ)) w)→
    (xs.Pairwise fun x y=> ∀M,x.k= .read M→ ∀e,y.o.dst=some e→e∉x.o.looksAt ops)→
    (∀x∈xs,∀M,x.k= .read M→(∀e,x.o.dst=some e→e∉x.o.looksAt ops))→
    xt P Γ ops hp' (zai tm d v) xs (zai tm' d v)
  | [],_,_,h,_,_,_,_,_,_=>zih h _ _
  |x ::xs,tm,tm',h,hk,hap,hb,hr,hpw,hself=>by
   obtain ⟨h1,h2,h3,h4⟩:=h
   obtain ⟨hx,hxa⟩:=hap x (by simp)
   obtain ⟨p1,p2,p3⟩:=Oper.apart_spec hxa
   have hsx: ∀cs b,x.o.op≠ .select cs b:=fun cs b=>hs _ _ cs b hx
   have hk':zfo hp'.length tm:=hk.mono hle
   have h2':x.v.ok (· <hp'.length):=SV.ok_mono (fun _ hk=>Nat.lt_of_lt_of_le hk hle) _ h2
   have f:zaa P Γ ops hp' x tm:=by
     refine h1.later hle hk (hb x (by simp)) fun M hM=>?_
     have hr0:=hr x (by simp) M hM
     let x':Late:=⟨x.i,{x.o with guard:=none},x.v,.read M⟩
     have la: ∀y,y∈x'.o.looksAt ops→y∈x.o.looksAt ops:=fun y hy=>by
       simp only [x',Oper.looksAt,List.append_nil,List.mem_append] at hy ⊢
       exact .inl hy
     have ex: ∀a:Act,execOp a.eval x'.o=execOp a.eval x.o:=fun a=>by
       simp only [x']
       obtain ⟨dst,op,type,pos,after,guard⟩:=x.o
       cases op<;>rfl
     have f':zaa P Γ ops hp' x' (zai tm' d v):=by
       unfold zaa
       simp only [x']
       refine ⟨fun ρ a _=>rfl,fun ρ a w ht hw hE=>?_⟩
       have:=ex a
       simp only [x'] at this
       rw [this];exact hr0 ρ a w ht hw hE
     have f'':zaa P Γ ops hp' x' tm:=by
       have g1:zaa P Γ ops hp' x' tm':=f'.back hsx (fun y hy hl=>p3 y (by rw [hd];exact hy) (la y hl)) hn hv
       have g2:zaa P Γ ops hp' x' (z1g (zai tm x.o.dst x.v) xs):=g1.same fun t=>(h4.end_ t).symm
       have g3:zaa P Γ ops hp' x' (zai tm x.o.dst x.v):=zaa.backs (x:=x') hle hsx h4 g2 (fun y hy e he hl=>(List.pairwise_cons.1 hpw).1 y hy M hM e he (la e hl))
       exact g3.back hsx (fun y hy hl=>hself x (by simp) M hM y hy (la y hl)) h3 h2'
     unfold zaa at f''
     simp only [x'] at f''
     intro ρ a w ht hw hE
     have:=ex a
     simp only [x'] at this
     rw [←this];exact f''.2 ρ a w ht hw hE
   refine ⟨f.forth hsx (fun y hy=>p3 y (by rw [hd];exact hy)) hk',h2',h3,?_⟩
   have ih:=xt.anchor hs hle hd hn hv h4 (hk.put h2) (fun y hy=>hap y (by simp [hy])) (fun y hy=>hb y (by simp [hy])) (fun y hy=>hr y (by simp [hy])) (List.pairwise_cons.1 hpw).2 (fun y hy=>hself y (by simp [hy]))
   refine ih.same fun t=>?_
   rw [y6,y6,y6,y6]
   by_cases e1:d=some t
   ·have:x.o.dst≠some t:=fun e=>p2 t e (by rw [hd];exact e1)
    rw [if_pos e1,if_neg this,if_pos e1]
   ·simp [e1]
theorem xt.grow {b:Blk} (hok: ∀(k:Nat) el ps,hp[k]?=some (Blk.mk el ps)→okL (· <hp.length) ps):
    ∀{xs:List Late} {tm tm':List (Nat×SV)},xt P Γ ops hp tm xs tm'→zfo hp.length tm→(∀x∈xs,∀c,x.k= .maker c→c<hp.length)→xt P Γ ops (hp++ [b]) tm (addM hp.length xs) tm'
  | [],_,_,h,_,_=>h
  |x ::xs,tm,tm',⟨h1,h2,h3,h4⟩,hk,hc=>by
   have hle:hp.length≤(hp++ [b]).length:=by simp
   have ih:=xt.grow (b:=b) hok h4 (hk.put h2) (fun y hy=>hc y (by simp [hy]))
   have h2':x.v.ok (· <(hp++ [b]).length):=SV.ok_mono (fun _ hk=>Nat.lt_of_lt_of_le hk hle) _ h2
   obtain ⟨i,o,v,kx⟩:=x
   cases kx with
   |pure=>exact ⟨h1.later hle hk (fun _ h=>by cases h) (fun _ h=>by cases h),h2',h3,ih⟩
   |maker c=>
    refine ⟨h1.later hle hk (fun b' h=>?_) (fun _ h=>by cases h),h2',h3,ih⟩
    cases h
    rw [List.getElem?_append_left (hc ⟨i,o,v,.maker c⟩ (by simp) c rfl)]
   |read M=>
    refine ⟨?_,h2',h3,ih⟩
    refine ⟨fun ρ a ht=>h1.1 ρ a (ht.down hk),fun ρ a w ht hw=>h1.2 ρ a w (ht.down hk) (hw.sub fun k el ps hkk=>?_)⟩
    rw [yy] at hkk
    have hkl:k<hp.length:=(List.getElem?_eq_some_iff.1 hkk.2).1
    refine ⟨yy.2 ⟨?_,by rw [List.getElem?_append_left hkl];exact hkk.2⟩,by rw [z9];exact hok k el ps hkk.2⟩
    simp only [List.mem_cons,not_or]
    exact ⟨Nat.ne_of_lt hkl,hkk.1⟩
end
end Go.Sym

namespace Go.Sym
section
variable {P:Program} {Γ:Ctx} {ops:Array Oper}
inductive Before (ops:Array Oper):Nat→Nat→Prop
  |edge {e j:Nat} {o:Oper}:ops[j]?=some o→e∈xe o→Before ops e j
  |trans {e j k:Nat} {o:Oper}:ops[j]?=some o→e∈xe o→Before ops k e→Before ops k j
theorem zjc {o:Oper} {e:Nat}:e∈xe o↔ ∃x∈o.after,Region.binds .any x=true∧x.on=e:=by
  unfold xe
  simp only [List.mem_map,List.mem_filter,Array.mem_toList_iff]
  constructor
  ·rintro ⟨x,⟨h1,h2⟩,h3⟩;exact ⟨x,h1,h2,h3⟩
  ·rintro ⟨x,h1,h2,h3⟩;exact ⟨x,⟨h1,h2⟩,h3⟩
theorem Before.listed {L:Nat→Prop} (down: ∀i o,L i→ops[i]?=some o→ ∀e∈xe o,L e) {k j:Nat} (h:Before ops k j):(∀o,ops[j]?=some o→ ∀e∈xe o,L e)→L k:=by
  induction h with
  |edge ho he=>exact fun hj=>hj _ ho _ he
  |trans ho he _ ih=>exact fun hj=>ih fun o ho'=>down _ o (hj _ ho _ he) ho'
theorem zfb {i:Nat}: ∀{l:List PStep},zpd i l=true↔ ∃s∈l,s.i=i
  | []=>by simp [zpd]
  |x ::xs=>by
   simp only [zpd,Bool.or_eq_true,zfb,List.mem_cons]
   rw [show (Nat.beq x.i i=true)=(x.i=i) from propext ⟨Nat.eq_of_beq_eq_true,fun h=>by rw [h];exact Nat.beq_refl i⟩]
   constructor
   ·rintro (h|⟨s,h1,h2⟩)
    ·exact ⟨x,.inl rfl,h⟩
    ·exact ⟨s,.inr h1,h2⟩
   ·rintro ⟨s,rfl|h1,h2⟩
    ·exact .inl h2
    ·exact .inr ⟨s,h1,h2⟩
def zej (ops:Array Oper) (T:Table):Prop:= ∀i k,Nat.testBit (zne T i) k=true→Before ops k i
theorem zgi {T:Table} (hT:zej ops T) {j:Nat} {o:Oper} (ho:ops[j]?=some o) {k:Nat}: ∀{es:List Nat},(∀e∈es,e∈xe o)→Nat.testBit (zdl T es) k=true→Before ops k j
  | [],_,h=>by simp [zdl] at h
  |e ::es,he,h=>by
   have h':Nat.testBit ((1<<<e|||zne T e)|||zdl T es) k=true:=h
   rw [Nat.testBit_or,Nat.testBit_or,Bool.or_eq_true,Bool.or_eq_true] at h'
   rcases h' with (h1|h1)|h1
   ·rw [Nat.testBit_shiftLeft] at h1
    simp only [Bool.and_eq_true,decide_eq_true_eq] at h1
    have:k-e=0:=by
      have:=h1.2
      rw [Nat.testBit_one_eq_true_iff_self_eq_zero] at this
      exact this
    have:k=e:=by omega
    subst this
    exact .edge ho (he _ (by simp))
   ·exact .trans ho (he e (by simp)) (hT _ _ h1)
   ·exact zgi hT ho (fun x hx=>he x (by simp [hx])) h1
theorem zej.cons {T:Table} (hT:zej ops T) {j:Nat} {o:Oper} (ho:ops[j]?=some o):zej ops ((j,zdl T (xe o)) ::T):=by
  intro i k h
  simp only [zne] at h
  split at h
  ·rename_i e
   have:j=i:=by simpa using e
   subst this
   exact zgi hT ho (fun _ h=>h) h
  ·exact hT i k h
theorem zqd {s:PStep} {o:Oper} {m:Nat} (hm: ∀k,Nat.testBit m k=true→Before ops k s.i): ∀{pre:List PStep},zoz ops s o m pre=true→ ∀x∈pre,
    (x.i∈s.loose∧ ∃y,ops[x.i]?=some y∧y.apart ops o=true)∨(x.i∉s.loose∧Before ops x.i s.i)
  | [],_=>by simp
  |y ::ys,h=>by
   simp only [zoz,Bool.and_eq_true] at h
   intro x hx
   rcases List.mem_cons.1 hx with rfl|hx
   ·have h1:=h.1
    split at h1
    ·rename_i e
     split at h1
     ·rename_i y hy;exact .inl ⟨x1.1 e,y,hy,h1⟩
     ·cases h1
    ·rename_i e
     exact .inr ⟨fun hl=>(by rw [x1.2 hl] at e;cases e),hm _ h1⟩
   ·exact zqd hm h.2 x hx
structure StepOK (Γ:Ctx) (ops:Array Oper) (pre:List PStep) (s:PStep) (ss:List PStep) (o:Oper):Prop where
  get:ops[s.i]?=some o
  new: ∀x∈pre,x.i≠s.i
  edges: ∀e∈xe o,∃x∈pre,x.i=e
  pairs: ∀x∈pre,(x.i∈s.loose∧ ∃y,ops[x.i]?=some y∧y.apart ops o=true)∨(x.i∉s.loose∧Before ops x.i s.i)
  forced:zak Γ o.op= .anchor→ ∀t∈ss,∃u,ops[t.i]?=some u∧ ∃e∈xe u,∀x∈pre,x.i≠e
  reads:zak Γ o.op= .anchor→ziz ops Γ s.loose pre [o.dst]=true
theorem z2c {pre:List PStep} {s:PStep} {ss:List PStep} {T:Table} (hT:zej ops T) (h:zc6 ops Γ pre (s ::ss) T=true):
    ∃o T',StepOK Γ ops pre s ss o∧zej ops T'∧zc6 ops Γ (s ::pre) ss T'=true:=by
  simp only [zc6] at h
  split at h
  ·cases h
  ·rename_i o ho
   simp only [Bool.and_eq_true,Bool.not_eq_true'] at h
   obtain ⟨⟨⟨⟨h1,h2⟩,h3⟩,h4⟩,h5⟩:=h
   have hnot: ∀{i:Nat} {l:List PStep},zpd i l=false→ ∀x∈l,x.i≠i:=fun hf x hx he=>by
     rw [zfb.2 ⟨x,hx,he⟩] at hf;cases hf
   refine ⟨o,_,⟨ho,hnot h1,?_,zqd (fun k hk=>zgi hT ho (fun _ h=>h) hk) h3,?_,?_⟩,hT.cons ho,h5⟩
   ·intro e he
    rw [List.all_eq_true] at h2
    obtain ⟨x,hx,hxe⟩:=zfb.1 (h2 e he)
    exact ⟨x,hx,hxe⟩
   ·intro hk t ht
    rw [hk] at h4
    simp only [Bool.and_eq_true,List.all_eq_true] at h4
    have h6:=h4.1 t ht
    split at h6
    ·rename_i u hu
     rw [List.any_eq_true] at h6
     obtain ⟨e,he,hne⟩:=h6
     exact ⟨u,hu,e,he,hnot (by simpa using hne)⟩
    ·cases h6
   ·intro hk
    rw [hk] at h4
    simp only [Bool.and_eq_true] at h4
    exact h4.2
inductive Along:List Late→List PStep→Prop
  |nil:Along [] []
  |skip {l:List Late} {pre:List PStep} {p:PStep}:Along l pre→Along l (p ::pre)
  |take {l:List Late} {pre:List PStep} {p:PStep} {x:Late}:x.i=p.i→Along l pre→Along (x ::l) (p ::pre)
theorem Along.mem {l:List Late} {pre:List PStep} (h:Along l pre): ∀x∈l,∃p∈pre,p.i=x.i:=by
  induction h with
  |nil=>simp
  |skip _ ih=>intro x hx;obtain ⟨p,h1,h2⟩:=ih x hx;exact ⟨p,by simp [h1],h2⟩
  |take he _ ih=>
   intro x hx
   rcases List.mem_cons.1 hx with rfl|hx
   ·exact ⟨_,by simp,he.symm⟩
   ·obtain ⟨p,h1,h2⟩:=ih x hx;exact ⟨p,by simp [h1],h2⟩
theorem z0j {L:List Nat} {late:List Late} {pre:List PStep} (hal:Along late pre): ∀{ds:List (Option Nat)},ziz ops Γ L pre ds=true→(∀x∈late,ops[x.i]?=some x.o)→
    (∀x∈late,zak Γ x.o.op= .read→x.i∈L→(∀e,x.o.dst=some e→e∉x.o.looksAt ops)∧ ∀d∈ds,∀e,d=some e→e∉x.o.looksAt ops)∧
    (late.Pairwise fun y x=>zak Γ x.o.op= .read→x.i∈L→ ∀e,y.o.dst=some e→e∉x.o.looksAt ops):=by
  induction hal with
  |nil=>intro ds _ _;simp
  |skip hal ih=>
   intro ds h hget
   simp only [ziz] at h
   split at h
   ·rename_i y hy
    simp only [Bool.and_eq_true] at h
    obtain ⟨g1,g2⟩:=ih h.2 hget
    exact ⟨fun z hz hk hl=>⟨(g1 z hz hk hl).1,fun d hd=>(g1 z hz hk hl).2 d (by simp [hd])⟩,g2⟩
   ·cases h
  | @take l pre p x he hal ih=>
    intro ds h hget
    simp only [ziz] at h
    split at h
    ·rename_i y hy
     have hxy:y=x.o:=by
       have:=hget x (by simp)
       rw [he,hy] at this
       exact Option.some.inj this
     subst hxy
     simp only [Bool.and_eq_true] at h
     obtain ⟨h1,h2⟩:=h
     obtain ⟨g1,g2⟩:=ih h2 (fun z hz=>hget z (by simp [hz]))
     refine ⟨fun z hz hk hl=>?_,List.pairwise_cons.2 ⟨fun z hz hk hl e hd=>?_,g2⟩⟩
     ·rcases List.mem_cons.1 hz with rfl|hz
      ·rw [hk,x1.2 (he ▸ hl)] at h1
       simp only [List.all_eq_true] at h1
       have key: ∀d∈z.o.dst ::ds,∀e,d=some e→e∉z.o.looksAt ops:=fun d hd e hde=>by
         have:=h1 d hd
         rw [hde] at this
         simpa using this
       exact ⟨key _ (by simp),fun d hd=>key d (by simp [hd])⟩
      ·exact ⟨(g1 z hz hk hl).1,fun d hd=>(g1 z hz hk hl).2 d (by simp [hd])⟩
     ·exact (g1 z hz hk hl).2 _ (by simp) e hd
    ·cases h
def x5 (L:List Nat):List Late→List Nat
  | []=> []
  |x ::xs=>match x.k with
   | .maker b=>if zaj L x.i then b ::x5 L xs else x5 L xs
   |_=>x5 L xs
theorem zbq {L:List Nat}: ∀{late:List Late} {k:List Nat→Prop},zaw L late k→k (x5 L late)
  | [],_,h=>h
  |⟨i,o,v,kx⟩ ::xs,k,h=>by
   cases kx with
   |pure=>exact zbq (late:=xs) h
   |read M=>exact zbq (late:=xs) h
   |maker b=>
    simp only [zaw] at h
    simp only [x5]
    split at h
    ·rename_i e;rw [if_pos e];exact zbq (late:=xs) h
    ·rename_i e;rw [if_neg (by rw [e];simp)];exact zbq (late:=xs) h
theorem zab {L:List Nat} {b:Nat}: ∀{late:List Late},b∈x5 L late↔ ∃x∈late,x.k= .maker b∧x.i∈L
  | []=>by simp [x5]
  |x ::xs=>by
   simp only [x5]
   split
   ·rename_i c hc
    split
    ·rename_i e
     rw [x1] at e
     simp only [List.mem_cons,zab]
     constructor
     ·rintro (rfl|⟨y,h1,h2⟩)
      ·exact ⟨x,.inl rfl,hc,e⟩
      ·exact ⟨y,.inr h1,h2⟩
     ·rintro ⟨y,rfl|h1,h2,h3⟩
      ·rw [hc] at h2;cases h2;exact .inl rfl
      ·exact .inr ⟨y,h1,h2,h3⟩
    ·rename_i e
     rw [x1] at e
     rw [zab]
     constructor
     ·rintro ⟨y,h1,h2⟩;exact ⟨y,by simp [h1],h2⟩
     ·rintro ⟨y,h1,h2,h3⟩
      rcases List.mem_cons.1 h1 with rfl|h1
      ·exact absurd h3 e
      ·exact ⟨y,h1,h2,h3⟩
   ·rename_i hc
    rw [zab]
    constructor
    ·rintro ⟨y,h1,h2⟩;exact ⟨y,by simp [h1],h2⟩
    ·rintro ⟨y,h1,h2,h3⟩
     rcases List.mem_cons.1 h1 with rfl|h1
     ·exact absurd h2 (hc b)
     ·exact ⟨y,h1,h2,h3⟩
theorem zug {tm:List (Nat×SV)} {hp:List Blk} {L:List Nat}: ∀{late:List Late} {p:Prop},reK Γ tm hp L late p→
    p∧ ∀x∈late,∀M,x.k= .read M→x.i∈L→zdo Γ x.o.op tm (mask M hp) fun v=>v=x.v
  | [],_,h=>⟨h,by simp⟩
  |x ::xs,p,h=>by
   simp only [reK] at h
   split at h
   ·rename_i M hM
    split at h
    ·have h1:=zj0 h
     obtain ⟨v,h2,h3⟩:=zuv x.o.op tm (mask M hp) _ h1
     obtain ⟨rfl,h4⟩:=zk9 h2
     obtain ⟨h5,h6⟩:=zug h4
     refine ⟨h5,fun y hy M' hM' hl=>?_⟩
     rcases List.mem_cons.1 hy with rfl|hy
     ·rw [hM] at hM';cases hM';exact h3 _ rfl
     ·exact h6 y hy M' hM' hl
    ·rename_i e
     obtain ⟨h5,h6⟩:=zug h
     refine ⟨h5,fun y hy M' hM' hl=>?_⟩
     rcases List.mem_cons.1 hy with rfl|hy
     ·rw [x1.2 hl] at e;cases e
     ·exact h6 y hy M' hM' hl
   ·rename_i hk
    obtain ⟨h5,h6⟩:=zug h
    refine ⟨h5,fun y hy M' hM' hl=>?_⟩
    rcases List.mem_cons.1 hy with rfl|hy
    ·exact absurd hM' (hk M')
    ·exact h6 y hy M' hM' hl
theorem zch {b:Nat} {y:Late}: ∀{late:List Late},y∈addM b late→ ∃x∈late,y.i=x.i∧y.o=x.o∧y.v=x.v∧
    ((∃M,x.k= .read M∧y.k= .read (b ::M))∨((∀M,x.k≠ .read M)∧y.k=x.k))
  | [],h=>by simp [addM] at h
  |x ::xs,h=>by
   simp only [addM,List.mem_cons] at h
   rcases h with h|h
   ·refine ⟨x,by simp,?_⟩
    split at h
    ·rename_i M hM;subst h;exact ⟨rfl,rfl,rfl,.inl ⟨M,hM,rfl⟩⟩
    ·rename_i hM;subst h;exact ⟨rfl,rfl,rfl,.inr ⟨hM,rfl⟩⟩
   ·obtain ⟨z,h1,h2⟩:=zch h
    exact ⟨z,by simp [h1],h2⟩
theorem zdq {b:Nat}: ∀{late:List Late},addM b late=late.map fun x=>match x.k with| .read M=>⟨x.i,x.o,x.v,.read (b ::M)⟩|_=>x
  | []=>rfl
  |⟨i,o,v,kx⟩ ::xs=>by cases kx<;>simp [addM,zdq]
theorem Along.addM {b:Nat} {late:List Late} {pre:List PStep} (h:Along late pre):Along (addM b late) pre:=by
  induction h with
  |nil=>exact .nil
  |skip _ ih=>exact .skip ih
  |take he _ ih=>
   refine .take ?_ ih
   rw [←he]
   split<;>rfl
theorem zqf {o:Oper} {n:Nat} {tm:List (Nat×SV)} {yes no:Prop} (h:zia ops.toList o tm yes no):
    (zgc Γ ops n o tm∧yes)∨((∀ρ a,TmRel Γ.nt ρ n tm a→Region.wanted o (yielded ops a.tmps)=false)∧no):=by
  unfold zia at h
  split at h
  ·rename_i hg
   exact .inl ⟨fun ρ a _=>by simp [Region.wanted,hg],h⟩
  ·rename_i j want hg
   obtain ⟨g,hj,h⟩:=zb0 h
   split at h
   ·rename_i d hd
    obtain ⟨v,hv,h⟩:=zz h
    split at h
    ·rename_i t
     obtain ⟨h1,h2⟩:=zu h
     have key: ∀(ρ:Nat→Nat) a,TmRel Γ.nt ρ n tm a→Region.wanted o (yielded ops a.tmps)=(t==want):=fun ρ a ht=>by
       have hval:=(ht.val d _ hv).2
       have hj':ops[j]?=some g:=by rw [←hj];simp
       simp only [Region.wanted,hg,yielded,hj',Option.bind_some,hd,hval,SV.den]
       cases t<;>cases want<;>rfl
     cases e:(t==want) with
     |true=>exact .inl ⟨fun ρ a ht=>by rw [key ρ a ht,e],h1 e⟩
     |false=>exact .inr ⟨fun ρ a ht=>by rw [key ρ a ht,e],h2 e⟩
    ·refine .inr ⟨fun ρ a ht=>?_,h⟩
     have hval:=(ht.val d _ hv).2
     have hj':ops[j]?=some g:=by rw [←hj];simp
     simp only [Region.wanted,hg,yielded,hj',Option.bind_some,hd,hval,SV.den]
     cases want<;>rfl
    ·exact h.elim
   ·exact h.elim
end
end Go.Sym

namespace Go.Sym
section
variable {P:Program} {Γ:Ctx} {ops:Array Oper} {Q:Exit→Act→World→Prop} {K:St→Prop} {ρ0:Nat→Nat} {hp0:List Blk} {w0:World}
def yz (listed:Array Bool) (late:List Late):List Late:=(late.filter fun x=>!listed.getD x.i false).reverse
def xm:List Late→List Nat
  | []=> []
  |x ::xs=>match x.k with
   | .maker b=>b ::xm xs
   |_=>xm xs
theorem yo {b:Nat}: ∀{xs:List Late},b∈xm xs↔ ∃x∈xs,x.k= .maker b
  | []=>by simp [xm]
  |⟨i,o,v,kx⟩ ::xs=>by cases kx<;>simp [xm,yo,eq_comm]
theorem y5 {listed:Array Bool} {late:List Late} {x:Late}:x∈yz listed late↔x∈late∧listed.getD x.i false=false:=by
  simp [yz]
theorem Step.sub {ρ:Nat→Nat} {hp hp':List Blk} {w:World} (h:Step ρ0 hp0 w0 ρ hp w) (hl:hp'.length=hp.length) (hs: ∀(k:Nat) el ps,hp'[k]?=some (Blk.mk el ps)→hp[k]?=some (.mk el ps)):Step ρ0 hp0 w0 ρ hp' w:=
  ⟨h.rel.sub fun k el ps hk=>⟨hs k el ps hk,by rw [hl];exact (h.rel.mem k el ps (hs k el ps hk)).1⟩,h.same,by rw [hl];exact h.le,h.ext,fun b ⟨k,el,ps,hk,he⟩=>h.foot b ⟨k,el,ps,hs k el ps hk,he⟩⟩
structure Inv (P:Program) (Γ:Ctx) (ops:Array Oper) (K:St→Prop) (ρ0:Nat→Nat) (hp0:List Blk) (w0:World) (listed:Array Bool) (a:Act) (w:World) (pre ss:List PStep) (late:List Late)
    (tm:List (Nat×SV)) (hp:List Blk) (ρ:Nat→Nat) (tmR:List (Nat×SV)):Prop where
  size:listed.size=ops.size
  down: ∀i o,listed.getD i false=true→ops[i]?=some o→ ∀e∈xe o,listed.getD e false=true
  real: ∀i,listed.getD i false=true→ ∃p∈pre,p.i=i
  virt: ∀p∈pre,listed.getD p.i false=true∨ ∃x∈late,x.i=p.i
  get: ∀x∈late,ops[x.i]?=some x.o
  along:Along late pre
  nodup:late.Pairwise fun x y=>x.i≠y.i
  pairs:late.Pairwise fun y x=>Before ops x.i y.i∨x.o.apart ops y.o=true
  rkind: ∀x∈late,∀M,x.k= .read M→zak Γ x.o.op= .read
  rmask: ∀x∈late,∀M,x.k= .read M→ ∀z∈late,∀b,z.k= .maker b→Before ops z.i x.i∨b∈M
  mblk: ∀z∈late,∀b,z.k= .maker b→hp0.length≤b∧b<hp.length
  mone: ∀y∈late,∀z∈late,∀b,y.k= .maker b→z.k= .maker b→y.i=z.i
  avoid: ∀y∈yz listed late,∀z∈yz listed late,∀b,z.k= .maker b→y.i≠z.i→Before ops z.i y.i∨
    (y.v.ok (· ≠b)∧ ∀c el ps,y.k= .maker c→hp[c]?=some (.mk el ps)→okL (· ≠b) ps)
  tmr:TmRel Γ.nt ρ hp.length tmR a
  chain:xt P Γ ops hp tmR (yz listed late) tm
  step:Step ρ0 hp0 w0 ρ (mask (xm (yz listed late)) hp) w
  hpok: ∀(k:Nat) el ps,hp[k]?=some (Blk.mk el ps)→okL (· <hp.length) ps
  a1: ∀t v,yw tmR t=some v→v.ok (· ∉xm (yz listed late))
  a2: ∀(k:Nat) el ps,k∉xm (yz listed late)→hp[k]?=some (Blk.mk el ps)→okL (· ∉xm (yz listed late)) ps
  nsel: ∀(j:Nat) (o:Oper) cs b,ops[j]?=some o→o.op≠ .select cs b
  plan: ∃T,zej ops T∧zc6 ops Γ pre ss T=true
  vc:zc8 Γ ops.toList ss late tm hp K
variable {listed:Array Bool} {a:Act} {w:World} {pre ss:List PStep} {s:PStep} {late:List Late} {tm:List (Nat×SV)} {hp:List Blk} {ρ:Nat→Nat} {tmR:List (Nat×SV)}
theorem zgw: ∀{xs:List Late} {tm tm':List (Nat×SV)},xt P Γ ops hp tm xs tm'→zfo hp.length tm→zfo hp.length tm'∧ ∀x∈xs,x.v.ok (· <hp.length)
  | [],_,_,h,hk=>⟨fun t v hv=>hk t v (by rw [h];exact hv),by simp⟩
  |x ::xs,_,_,⟨_,h2,_,h4⟩,hk=>by
   obtain ⟨g1,g2⟩:=zgw h4 (hk.put h2)
   exact ⟨g1,fun y hy=>by rcases List.mem_cons.1 hy with rfl|hy;exact h2;exact g2 y hy⟩
theorem zmo {x:Late} (h:listed.getD x.i false=false):yz listed (x ::late)=yz listed late++ [x]:=by
  unfold yz
  rw [List.filter_cons_of_pos (by rw [h];rfl),List.reverse_cons]
theorem Inv.absorb (I:Inv P Γ ops K ρ0 hp0 w0 listed a w pre (s ::ss) late tm hp ρ tmR) {o:Oper} {T':Table} (S:StepOK Γ ops pre s ss o) (hT:zej ops T') (hpl:zc6 ops Γ (s ::pre) ss T'=true)
    {v:SV} {k:LateK} (hk: ∀b,k≠ .maker b) (hkr: ∀M,k= .read M→zak Γ o.op= .read∧M=x5 s.loose late) (hf:zaa P Γ ops hp ⟨s.i,o,v,k⟩ tm) (hv:v.ok (· <hp.length)) (hav:v.ok (· ∉x5 s.loose late))
    (hd: ∀d,o.dst=some d→d<Γ.nt) (hvc:zc8 Γ ops.toList ss (⟨s.i,o,v,k⟩ ::late) (zai tm o.dst v) hp K):
    Inv P Γ ops K ρ0 hp0 w0 listed a w (s ::pre) ss (⟨s.i,o,v,k⟩ ::late) (zai tm o.dst v) hp ρ tmR:=by
  have hun:listed.getD s.i false=false:=by
    cases h:listed.getD s.i false with
    |false=>rfl
    |true=>obtain ⟨p,hp,he⟩:=I.real _ h;exact absurd he (S.new p hp)
  have hne: ∀x∈late,x.i≠s.i:=fun x hx=>by obtain ⟨p,h1,h2⟩:=I.along.mem x hx;rw [←h2];exact S.new p h1
  have hlo: ∀x∈late,(x.i∈s.loose∧x.o.apart ops o=true)∨(x.i∉s.loose∧Before ops x.i s.i):=fun x hx=>by
    obtain ⟨p,h1,h2⟩:=I.along.mem x hx
    rcases S.pairs p h1 with ⟨g1,y,g2,g3⟩|⟨g1,g2⟩
    ·rw [h2] at g1 g2
     rw [I.get x hx] at g2
     cases g2
     exact .inl ⟨g1,g3⟩
    ·rw [h2] at g1 g2;exact .inr ⟨g1,g2⟩
  have hpe:yz listed (⟨s.i,o,v,k⟩ ::late)=yz listed late++ [⟨s.i,o,v,k⟩]:=zmo hun
  have hpb: ∀b,b∈xm (yz listed (⟨s.i,o,v,k⟩ ::late))↔b∈xm (yz listed late):=fun b=>by
    rw [hpe,yo,yo]
    constructor
    ·rintro ⟨x,hx,hxk⟩
     rcases List.mem_append.1 hx with hx|hx
     ·exact ⟨x,hx,hxk⟩
     ·simp at hx;subst hx;exact absurd hxk (hk b)
    ·rintro ⟨x,hx,hxk⟩;exact ⟨x,by simp [hx],hxk⟩
  refine {I with
    real:=fun i h=>by obtain ⟨p,h1,h2⟩:=I.real i h;exact ⟨p,by simp [h1],h2⟩
    virt:=fun p hp=>?_
    get:=fun x hx=>by rcases List.mem_cons.1 hx with rfl|hx;exact S.get;exact I.get x hx
    along:= .take rfl I.along
    nodup:=List.pairwise_cons.2 ⟨fun x hx=>(hne x hx).symm,I.nodup⟩
    pairs:=List.pairwise_cons.2 ⟨fun x hx=>(hlo x hx).elim (fun h=> .inr h.2) (fun h=> .inl h.2),I.pairs⟩
    rkind:=fun x hx M hM=>by rcases List.mem_cons.1 hx with rfl|hx;exact (hkr M hM).1;exact I.rkind x hx M hM
    rmask:=fun x hx M hM z hz b hb=>?_
    mblk:=fun z hz b hb=>by rcases List.mem_cons.1 hz with rfl|hz;exact absurd hb (hk b);exact I.mblk z hz b hb
    mone:=fun y hy z hz b h1 h2=>?_
    avoid:=fun y hy z hz b hb hyz=>?_
    chain:=by rw [hpe];exact I.chain.snoc hf hv hd
    step:=I.step.sub (by simp [z9]) fun c el ps hc=>by rw [yy] at hc ⊢;exact ⟨fun h=>hc.1 ((hpb c).2 h),hc.2⟩
    a1:=fun t u hu=>SV.ok_mono (fun x hx h=>hx ((hpb x).1 h)) u (I.a1 t u hu)
    a2:=fun c el ps hc hcc=>ym (fun x hx h=>hx ((hpb x).1 h)) _ (I.a2 c el ps (fun h=>hc ((hpb c).2 h)) hcc)
    plan:=⟨T',hT,hpl⟩
    vc:=hvc}
  ·rcases List.mem_cons.1 hp with rfl|hp
   ·exact .inr ⟨_,List.mem_cons_self,rfl⟩
   ·rcases I.virt p hp with h|⟨x,h1,h2⟩
    ·exact .inl h
    ·exact .inr ⟨x,by simp [h1],h2⟩
  ·rcases List.mem_cons.1 hz with rfl|hz
   ·exact absurd hb (hk b)
   ·rcases List.mem_cons.1 hx with rfl|hx
    ·obtain ⟨_,rfl⟩:=hkr M hM
     rcases hlo z hz with ⟨g1,_⟩|⟨_,g2⟩
     ·exact .inr (zab.2 ⟨z,hz,hb,g1⟩)
     ·exact .inl g2
    ·exact I.rmask x hx M hM z hz b hb
  ·rcases List.mem_cons.1 hy with rfl|hy
   ·exact absurd h1 (hk b)
   ·rcases List.mem_cons.1 hz with rfl|hz
    ·exact absurd h2 (hk b)
    ·exact I.mone y hy z hz b h1 h2
  ·rw [hpe] at hy hz
   rcases List.mem_append.1 hz with hz|hz
   ·rcases List.mem_append.1 hy with hy|hy
    ·exact I.avoid y hy z hz b hb hyz
    ·simp at hy;subst hy
     have hzl:=(y5.1 hz).1
     rcases hlo z hzl with ⟨g1,_⟩|⟨_,g2⟩
     ·refine .inr ⟨SV.ok_mono (fun x hx e=>hx (by rw [e];exact zab.2 ⟨z,hzl,hb,g1⟩)) v hav,fun c el ps hc=>absurd hc (hk c)⟩
     ·exact .inl g2
   ·simp at hz;subst hz;exact absurd hb (hk b)
theorem Inv.absorbM (I:Inv P Γ ops K ρ0 hp0 w0 listed a w pre (s ::ss) late tm hp ρ tmR) {o:Oper} {T':Table} (S:StepOK Γ ops pre s ss o) (hT:zej ops T') (hpl:zc6 ops Γ (s ::pre) ss T'=true)
    {v:SV} {el:TypeId} {ps:List SV} (hw:zgc Γ ops hp.length o tm) (hv:v.ok (· =hp.length)) (hps:okL (· <hp.length) ps)
    (hrun: ∀ρ a,TmRel Γ.nt ρ hp.length tm a→ ∀(ρ1:Nat→Nat) w,ρ1 hp.length=w.heap.size→(execOp a.eval o).run P w= .ok (.value (v.den ρ1)) (w.alloc (.cells (zm ρ ps).toArray el)))
    (hav:okL (· ∉x5 s.loose late) ps)
    (hd: ∀d,o.dst=some d→d<Γ.nt) (hvc:zc8 Γ ops.toList ss (⟨s.i,o,v,.maker hp.length⟩ ::addM hp.length late) (zai tm o.dst v) (hp++ [.mk el ps]) K):
    Inv P Γ ops K ρ0 hp0 w0 listed a w (s ::pre) ss (⟨s.i,o,v,.maker hp.length⟩ ::addM hp.length late) (zai tm o.dst v) (hp++ [.mk el ps]) ρ tmR:=by
  have hun:listed.getD s.i false=false:=by
    cases h:listed.getD s.i false with
    |false=>rfl
    |true=>obtain ⟨p,hp,he⟩:=I.real _ h;exact absurd he (S.new p hp)
  have hne: ∀x∈late,x.i≠s.i:=fun x hx=>by obtain ⟨p,h1,h2⟩:=I.along.mem x hx;rw [←h2];exact S.new p h1
  have hlo: ∀x∈late,(x.i∈s.loose∧x.o.apart ops o=true)∨(x.i∉s.loose∧Before ops x.i s.i):=fun x hx=>by
    obtain ⟨p,h1,h2⟩:=I.along.mem x hx
    rcases S.pairs p h1 with ⟨g1,y,g2,g3⟩|⟨g1,g2⟩
    ·rw [h2] at g1 g2
     rw [I.get x hx] at g2
     cases g2
     exact .inl ⟨g1,g3⟩
    ·rw [h2] at g1 g2;exact .inr ⟨g1,g2⟩
  have hfl: ∀l:List Late,(addM hp.length l).filter (fun x=>!listed.getD x.i false)=addM hp.length (l.filter fun x=>!listed.getD x.i false):=fun l=>by
    induction l with
    |nil=>rfl
    |cons x xs ih=>
     obtain ⟨i,o,v,kx⟩:=x
     cases kx<;>simp only [addM,List.filter_cons,ih]<;>split<;>rfl
  have hpa:yz listed (addM hp.length late)=addM hp.length (yz listed late):=by
    unfold yz
    rw [hfl,zdq,zdq,List.map_reverse]
  have hpe:yz listed (⟨s.i,o,v,.maker hp.length⟩ ::addM hp.length late)=addM hp.length (yz listed late)++ [⟨s.i,o,v,.maker hp.length⟩]:=by
    rw [zmo hun,hpa]
  have hmk: ∀{y:Late} {l:List Late} {b:Nat},y∈addM hp.length l→y.k= .maker b→ ∃x∈l,x.k= .maker b∧y.i=x.i∧y.v=x.v∧y.o=x.o:=fun hy hb=>by
    obtain ⟨x,h1,h2,h3,h4,h5⟩:=zch hy
    rcases h5 with ⟨M,_,h6⟩|⟨_,h6⟩
    ·rw [h6] at hb;cases hb
    ·exact ⟨x,h1,by rw [←h6,hb],h2,h4,h3⟩
  have hkm: ∀{x:Late} {l:List Late} {b:Nat},x∈l→x.k= .maker b→x∈addM hp.length l:=fun {x l b} hx hb=>by
    induction l with
    |nil=>cases hx
    |cons y ys ih=>
     simp only [addM,List.mem_cons]
     rcases List.mem_cons.1 hx with rfl|hx
     ·left;rw [hb]
     ·right;exact ih hx
  have hpb: ∀b,b∈xm (yz listed (⟨s.i,o,v,.maker hp.length⟩ ::addM hp.length late))↔b∈xm (yz listed late)∨b=hp.length:=fun b=>by
    rw [hpe,yo,yo]
    constructor
    ·rintro ⟨x,hx,hxk⟩
     rcases List.mem_append.1 hx with hx|hx
     ·obtain ⟨y,h1,h2,_⟩:=hmk hx hxk;exact .inl ⟨y,h1,h2⟩
     ·simp at hx;subst hx;cases hxk;exact .inr rfl
    ·rintro (⟨x,hx,hxk⟩|rfl)
     ·exact ⟨x,by simp [hkm hx hxk],hxk⟩
     ·exact ⟨_,List.mem_append_right _ (List.mem_singleton.2 rfl),rfl⟩
  have hpl': ∀b∈xm (yz listed late),b<hp.length:=fun b hb=>by
    obtain ⟨x,h1,h2⟩:=yo.1 hb
    exact (I.mblk x (y5.1 h1).1 b h2).2
  have hlen:(hp++ [Blk.mk el ps]).length=hp.length+1:=by simp
  have hle:hp.length≤(hp++ [Blk.mk el ps]).length:=by simp
  have old: ∀(k:Nat) el' qs,(hp++ [Blk.mk el ps])[k]?=some (Blk.mk el' qs)→k<hp.length∧hp[k]?=some (.mk el' qs)∨k=hp.length∧el'=el∧qs=ps:=fun k el' qs hk=>by
    rcases Nat.lt_trichotomy k hp.length with hl|rfl|hl
    ·rw [List.getElem?_append_left hl] at hk;exact .inl ⟨hl,hk⟩
    ·simp at hk;exact .inr ⟨rfl,hk.1.symm,hk.2.symm⟩
    ·rw [List.getElem?_eq_none (by simp;omega)] at hk;cases hk
  obtain ⟨htm,hxs⟩:=zgw I.chain I.tmr.okay
  have hin: ∀{y:Late},y∈addM hp.length late→ ∃x∈late,y.i=x.i∧y.o=x.o:=fun hy=>by obtain ⟨x,h1,h2,h3,_⟩:=zch hy;exact ⟨x,h1,h2,h3⟩
  refine {I with
    real:=fun i h=>by obtain ⟨p,h1,h2⟩:=I.real i h;exact ⟨p,by simp [h1],h2⟩
    virt:=fun p hp=>?_
    get:=fun x hx=>by
      rcases List.mem_cons.1 hx with rfl|hx
      ·exact S.get
      ·obtain ⟨y,h1,h2,h3⟩:=hin hx;rw [h2,h3];exact I.get y h1
    along:= .take rfl I.along.addM
    nodup:=List.pairwise_cons.2 ⟨fun x hx=>by obtain ⟨y,h1,h2,_⟩:=hin hx;rw [h2];exact (hne y h1).symm,?_⟩
    pairs:=List.pairwise_cons.2 ⟨fun x hx=>by obtain ⟨y,h1,h2,h3⟩:=hin hx;rw [h2,h3];exact (hlo y h1).elim (fun h=> .inr h.2) (fun h=> .inl h.2),?_⟩
    rkind:=fun x hx M hM=>?_
    rmask:=fun x hx M hM z hz b hb=>?_
    mblk:=fun z hz b hb=>?_
    mone:=fun y hy z hz b h1 h2=>?_
    avoid:=fun y hy z hz b hb hyz=>?_
    tmr:=I.tmr.down' hle
    chain:=by
      rw [hpe]
      exact (I.chain.grow I.hpok I.tmr.okay fun x hx c hc=>(I.mblk x (y5.1 hx).1 c hc).2).snoc ⟨fun ρ a ht=>hw ρ a (ht.down htm),el,ps,by simp,ym (fun x hx=>Nat.lt_of_lt_of_le hx hle) _ hps,hv,ym (fun x hx e=>by omega) _ hps,fun ρ a ht=>hrun ρ a (ht.down htm)⟩
        (SV.ok_mono (fun x hx=>by rw [hx,hlen];exact Nat.lt_succ_self _) v hv) hd
    step:=I.step.grow.sub (by simp [z9]) fun c el' qs hc=>?_
    hpok:=fun k el' qs hk=>?_
    a1:=fun t u hu=>SV.ok_and (fun x (h1:x∉xm (yz listed late)) (h2:x<hp.length) h=>(hpb x |>.1 h).elim h1 (fun e=>by omega)) u (I.a1 t u hu) (I.tmr.okay t u hu)
    a2:=fun c el' qs hc hcc=>?_
    plan:=⟨T',hT,hpl⟩
    vc:=hvc}
  ·rcases List.mem_cons.1 hp with rfl|hp
   ·exact .inr ⟨_,List.mem_cons_self,rfl⟩
   ·rcases I.virt p hp with h|⟨x,h1,h2⟩
    ·exact .inl h
    ·right
     rw [zdq]
     refine ⟨_,List.mem_cons_of_mem _ (List.mem_map.2 ⟨x,h1,rfl⟩),?_⟩
     rw [←h2]
     split<;>rfl
  ·rw [zdq,List.pairwise_map]
   refine I.nodup.imp fun {x y} h=>?_
   obtain ⟨i,o,v,kx⟩:=x
   obtain ⟨i',o',v',kx'⟩:=y
   cases kx<;>cases kx'<;>exact h
  ·rw [zdq,List.pairwise_map]
   refine I.pairs.imp fun {x y} h=>?_
   obtain ⟨i,o,v,kx⟩:=x
   obtain ⟨i',o',v',kx'⟩:=y
   cases kx<;>cases kx'<;>exact h
  ·rcases List.mem_cons.1 hx with rfl|hx
   ·cases hM
   ·obtain ⟨y,h1,h2,h3,h4,h5⟩:=zch hx
    rcases h5 with ⟨M',h6,_⟩|⟨h6,h7⟩
    ·rw [h3];exact I.rkind y h1 M' h6
    ·rw [h7] at hM;exact absurd hM (h6 M)
  ·rcases List.mem_cons.1 hx with rfl|hx
   ·cases hM
   ·obtain ⟨y,h1,h2,h3,h4,h5⟩:=zch hx
    rcases h5 with ⟨M',h6,h7⟩|⟨h6,h7⟩
    ·rw [h7] at hM
     cases hM
     rcases List.mem_cons.1 hz with rfl|hz
     ·cases hb;exact .inr (by simp)
     ·obtain ⟨z',g1,g2,g3,_⟩:=hmk hz hb
      rw [g3,h2]
      rcases I.rmask y h1 M' h6 z' g1 b g2 with h|h
      ·exact .inl h
      ·exact .inr (by simp [h])
    ·rw [h7] at hM;exact absurd hM (h6 M)
  ·rw [hlen]
   rcases List.mem_cons.1 hz with rfl|hz
   ·cases hb;exact ⟨by have:=I.step.le;rwa [z9] at this,Nat.lt_succ_self _⟩
   ·obtain ⟨z',g1,g2,_⟩:=hmk hz hb
    have:=I.mblk z' g1 b g2
    exact ⟨this.1,by omega⟩
  ·rcases List.mem_cons.1 hy with rfl|hy
   ·cases h1
    rcases List.mem_cons.1 hz with rfl|hz
    ·rfl
    ·obtain ⟨z',g1,g2,_⟩:=hmk hz h2
     have:=(I.mblk z' g1 _ g2).2;omega
   ·obtain ⟨y',f1,f2,f3,_⟩:=hmk hy h1
    rcases List.mem_cons.1 hz with rfl|hz
    ·cases h2
     have:=(I.mblk y' f1 _ f2).2;omega
    ·obtain ⟨z',g1,g2,g3,_⟩:=hmk hz h2
     rw [f3,g3];exact I.mone y' f1 z' g1 b f2 g2
  ·rw [hpe] at hy hz
   rcases List.mem_append.1 hz with hz|hz
   ·obtain ⟨z',g1,g2,g3,_⟩:=hmk hz hb
    have hzl:=(y5.1 g1).1
    have hbl:=(I.mblk z' hzl b g2).2
    rcases List.mem_append.1 hy with hy|hy
    ·obtain ⟨y',f1,f2,f3,f4,f5⟩:=zch hy
     rw [f2,g3] at hyz ⊢
     rcases I.avoid y' f1 z' g1 b g2 hyz with h|⟨h,h'⟩
     ·exact .inl h
     ·refine .inr ⟨by rw [f4];exact h,fun c el' qs hc hcc=>?_⟩
      obtain ⟨y2,e1,e2,_⟩:=hmk hy hc
      have hcl:=(I.mblk y2 (y5.1 e1).1 c e2).2
      rw [List.getElem?_append_left hcl] at hcc
      refine h' c el' qs ?_ hcc
      rcases f5 with ⟨M,_,h6⟩|⟨_,h6⟩
      ·rw [h6] at hc;cases hc
      ·rw [←h6,hc]
    ·simp at hy;subst hy
     rw [g3]
     rcases hlo z' hzl with ⟨q1,_⟩|⟨_,q2⟩
     ·refine .inr ⟨SV.ok_mono (fun x hx e=>by omega) v hv,fun c el' qs hc hcc=>?_⟩
      cases hc
      simp at hcc
      obtain ⟨_,rfl⟩:=hcc
      exact ym (fun x hx e=>hx (by rw [e];exact zab.2 ⟨z',hzl,g2,q1⟩)) _ hav
     ·exact .inl q2
   ·simp at hz;subst hz
    cases hb
    rcases List.mem_append.1 hy with hy|hy
    ·obtain ⟨y',f1,f2,f3,f4,f5⟩:=zch hy
     refine .inr ⟨?_,fun c el' qs hc hcc=>?_⟩
     ·rw [f4];exact SV.ok_mono (fun x hx e=>by omega) _ (hxs y' f1)
     ·obtain ⟨y2,e1,e2,_⟩:=hmk hy hc
      have hcl:=(I.mblk y2 (y5.1 e1).1 c e2).2
      rw [List.getElem?_append_left hcl] at hcc
      exact ym (fun x hx e=>by omega) _ (I.hpok c el' qs hcc)
    ·simp at hy;subst hy;exact absurd rfl hyz
  ·rw [yy] at hc
   obtain ⟨h1,h2⟩:=hc
   have hcn:c∉xm (yz listed late)∧c≠hp.length:=by
     have:=fun h=>h1 ((hpb c).2 h)
     exact ⟨fun h=>this (.inl h),fun h=>this (.inr h)⟩
   rcases old c el' qs h2 with ⟨hl,h3⟩|⟨h3,_⟩
   ·rw [List.getElem?_append_left (by rwa [z9])]
    exact yy.2 ⟨hcn.1,h3⟩
   ·exact absurd h3 hcn.2
  ·rcases old k el' qs hk with ⟨hl,h3⟩|⟨_,_,rfl⟩
   ·exact ym (fun x hx=>Nat.lt_of_lt_of_le hx hle) _ (I.hpok k el' qs h3)
   ·exact ym (fun x hx=>Nat.lt_of_lt_of_le hx hle) _ hps
  ·have hcn:c∉xm (yz listed late)∧c≠hp.length:=by
     have:=fun h=>hc ((hpb c).2 h)
     exact ⟨fun h=>this (.inl h),fun h=>this (.inr h)⟩
   rcases old c el' qs hcc with ⟨hl,h3⟩|⟨h3,_⟩
   ·exact z24 (fun x (g1:x∉xm (yz listed late)) (g2:x<hp.length) h=>(hpb x |>.1 h).elim g1 (fun e=>by omega)) (I.a2 c el' qs hcn.1 h3) (I.hpok c el' qs h3)
   ·exact absurd h3 hcn.2
end
end Go.Sym

namespace Go.Sym
section
variable {P:Program} {Γ:Ctx} {ops:Array Oper} {Q:Exit→Act→World→Prop} {K:St→Prop} {ρ0:Nat→Nat} {hp0:List Blk} {w0:World}
variable {listed:Array Bool} {a:Act} {w:World} {pre ss:List PStep} {s:PStep} {late:List Late} {tm:List (Nat×SV)} {hp:List Blk} {ρ:Nat→Nat} {tmR:List (Nat×SV)}
theorem zn4 {v:SV} {p:Nat→Prop} (hv:v.ok p): ∀{L:List Nat},(∀b∈L,v.ok (· ≠b))→v.ok (· ∉L)
  | [],_=>SV.ok_mono (fun _ _=>by simp) v hv
  |b ::L,h=>SV.ok_and (fun x (h1:x≠b) (h2:x∉L)=>by simp [h1,h2]) v (h b (by simp)) (zn4 hv fun c hc=>h c (by simp [hc]))
theorem z00 {vs:List SV} {p:Nat→Prop} (hv:okL p vs) {L:List Nat} (h: ∀b∈L,okL (· ≠b) vs):okL (· ∉L) vs:=zn4 (v:= .agg vs) hv h
theorem zar {i:Nat} {o:Oper} (ho:ops[i]?=some o) (hw:Region.wanted o (yielded ops a.tmps)=true) {v:Value} {w':World} (hr:(execOp a.eval o).run P w= .ok (.value v) w') {Kc:Act→World→Prop} (h:Kc (a.put o.dst v) w'):wpOp P ops Q i Kc a w:=by
  unfold wpOp
  simp only [ho,hw,if_true,Oper.wp,hr,Oper.upon]
  exact .inl h
theorem zax {i j:Nat} (h:j<listed.size):(listed.setIfInBounds j true).getD i false=true↔i=j∨listed.getD i false=true:=by
  by_cases e:i=j
  ·subst e;simp [h]
  ·rw [getD_set_ne false (fun x=>e x.symm)];simp [e]
theorem TmRel.re {nt n:Nat} {ρ ρ1:Nat→Nat} {tm:List (Nat×SV)} {a:Act} (h:TmRel nt ρ n tm a) (hs: ∀t v,yw tm t=some v→v.den ρ1=v.den ρ):TmRel nt ρ1 n tm a:=
  ⟨h.size,h.defers,fun t v hv=>⟨(h.val t v hv).1,by rw [(h.val t v hv).2,hs t v hv]⟩⟩
theorem Inv.lt (I:Inv P Γ ops K ρ0 hp0 w0 listed a w pre ss late tm hp ρ tmR) {x:Late} (hx:x∈late):x.i<listed.size:=by
  rw [I.size];exact (Array.getElem?_eq_some_iff.1 (I.get x hx)).1
theorem Inv.core (I:Inv P Γ ops K ρ0 hp0 w0 listed a w pre ss late tm hp ρ tmR) {x:Late} (hx:x∈yz listed late) (hrd: ∀e∈xe x.o,listed.getD e false=true):
    ∃A B,yz listed late=A++x ::B∧yz (listed.setIfInBounds x.i true) late=A++B∧zaa P Γ ops hp x tmR∧x.v.ok (· <hp.length)∧(∀d,x.o.dst=some d→d<Γ.nt)∧
     (∀z∈A++B,∀b,z.k= .maker b→x.v.ok (· ≠b)∧ ∀c el ps,x.k= .maker c→hp[c]?=some (.mk el ps)→okL (· ≠b) ps)∧
     ∀a' w' ρ',TmRel Γ.nt ρ' hp.length (zai tmR x.o.dst x.v) a'→Step ρ0 hp0 w0 ρ' (mask (xm (A++B)) hp) w'→
      Inv P Γ ops K ρ0 hp0 w0 (listed.setIfInBounds x.i true) a' w' pre ss late tm hp ρ' (zai tmR x.o.dst x.v):=by
  obtain ⟨hxl,hxu⟩:=y5.1 hx
  have hlt:=I.lt hxl
  obtain ⟨A,B,hAB⟩:=List.append_of_mem hx
  have hbef: ∀{k:Nat},Before ops k x.i→listed.getD k false=true:=fun hb=>
    hb.listed (L:=fun i=>listed.getD i false=true) I.down fun o ho e he=>hrd e (by rw [I.get x hxl] at ho;cases ho;exact he)
  have hnd:(yz listed late).Pairwise fun x y=>x.i≠y.i:=by
    unfold yz
    rw [List.pairwise_reverse]
    exact (I.nodup.filter _).imp fun h=>h.symm
  have hpw:(yz listed late).Pairwise fun x y=>Before ops x.i y.i∨x.o.apart ops y.o=true:=by
    unfold yz
    rw [List.pairwise_reverse]
    exact I.pairs.filter _
  rw [hAB,List.pairwise_append] at hnd hpw
  have hnA: ∀y∈A,y.i≠x.i:=fun y hy=>hnd.2.2 y hy x (by simp)
  have hnB: ∀y∈B,y.i≠x.i:=fun y hy=>((List.pairwise_cons.1 hnd.2.1).1 y hy).symm
  have hmem: ∀{y:Late},y∈A++B→y∈yz listed late∧y.i≠x.i:=fun hy=>by
    rw [hAB]
    rcases List.mem_append.1 hy with h|h
    ·exact ⟨by simp [h],hnA _ h⟩
    ·exact ⟨by simp [h],hnB _ h⟩
  have hpe:yz (listed.setIfInBounds x.i true) late=A++B:=by
    have:yz (listed.setIfInBounds x.i true) late=(yz listed late).filter fun y=>!(decide (y.i=x.i)):=by
      unfold yz
      rw [List.filter_reverse,List.filter_filter]
      congr 1
      apply List.filter_congr
      intro y hy
      by_cases e:y.i=x.i
      ·have:(listed.setIfInBounds x.i true).getD y.i false=true:=(zax hlt).2 (.inl e)
       rw [this];simp [e]
      ·rw [getD_set_ne false (fun h=>e h.symm)];simp [e]
    rw [this,hAB,List.filter_append,List.filter_cons_of_neg (by simp),List.filter_eq_self.2 (fun y hy=>by simp [hnA y hy]),List.filter_eq_self.2 (fun y hy=>by simp [hnB y hy])]
  have hch:=I.chain
  rw [hAB] at hch
  have hns: ∀(j:Nat) (o:Oper) cs b,ops[j]?=some o→o.op≠ .select cs b:=I.nsel
  obtain ⟨f1,f2,f3,f4⟩:=hch.bubble hns (I.get x hxl) I.tmr.okay fun y hy=>by
    have hyp:y∈yz listed late:=by rw [hAB];simp [hy]
    obtain ⟨hyl,hyu⟩:=y5.1 hyp
    refine ⟨I.get y hyl,(hpw.2.2 y hy x (by simp)).resolve_left fun hb=>?_⟩
    rw [hbef hb] at hyu;cases hyu
  have hav: ∀z∈A++B,∀b,z.k= .maker b→x.v.ok (· ≠b)∧ ∀c el ps,x.k= .maker c→hp[c]?=some (.mk el ps)→okL (· ≠b) ps:=fun z hz b hb=>by
    obtain ⟨hzp,hzn⟩:=hmem hz
    refine (I.avoid x hx z hzp b hb (fun e=>hzn e.symm)).resolve_left fun hbf=>?_
    have:=(y5.1 hzp).2
    rw [hbef hbf] at this;cases this
  have hsub: ∀b,b∈xm (A++B)→b∈xm (yz listed late):=fun b hb=>by
    obtain ⟨z,h1,h2⟩:=yo.1 hb
    exact yo.2 ⟨z,(hmem h1).1,h2⟩
  refine ⟨A,B,hAB,hpe,f1,f2,f3,hav,fun a' w' ρ' htm hst=>?_⟩
  refine {I with
    size:=by simp [I.size]
    down:=fun i o hi ho e he=>?_
    real:=fun i hi=>?_
    virt:=fun p hp=>?_
    avoid:=fun y hy z hz b hb hyz=>I.avoid y (hmem (hpe ▸ hy)).1 z (hmem (hpe ▸ hz)).1 b hb hyz
    tmr:=htm
    chain:=by rw [hpe];exact f4
    step:=by rw [hpe];exact hst
    a1:=fun t v hv=>?_
    a2:=fun c el ps hc hcc=>?_}
  ·rw [zax hlt] at hi ⊢
   rcases hi with rfl|hi
   ·rw [I.get x hxl] at ho;cases ho;exact .inr (hrd e he)
   ·exact .inr (I.down i o hi ho e he)
  ·rw [zax hlt] at hi
   rcases hi with rfl|hi
   ·exact I.along.mem x hxl
   ·exact I.real i hi
  ·rw [zax hlt]
   rcases I.virt p hp with h|h
   ·exact .inl (.inr h)
   ·exact .inr h
  ·rw [hpe]
   rw [y6] at hv
   split at hv
   ·cases hv
    refine zn4 f2 fun b hb=>?_
    obtain ⟨z,h1,h2⟩:=yo.1 hb
    exact (hav z h1 b h2).1
   ·exact SV.ok_mono (fun y hy h=>hy (hsub y h)) v (I.a1 t v hv)
  ·rw [hpe] at hc ⊢
   by_cases hcp:c∈xm (yz listed late)
   ·obtain ⟨z,h1,h2⟩:=yo.1 hcp
    have hzx:z=x:=by
      rw [hAB] at h1
      rcases List.mem_append.1 h1 with h|h
      ·exact absurd (yo.2 ⟨z,by simp [h],h2⟩) hc
      ·rcases List.mem_cons.1 h with h|h
       ·exact h
       ·exact absurd (yo.2 ⟨z,by simp [h],h2⟩) hc
    subst hzx
    refine z00 (I.hpok c el ps hcc) fun b hb=>?_
    obtain ⟨y,g1,g2⟩:=yo.1 hb
    exact (hav y g1 b g2).2 c el ps h2 hcc
   ·exact ym (fun y hy h=>hy (hsub y h)) _ (I.a2 c el ps hcp hcc)
theorem Inv.exec (hE: ∀w',Ext (zfc ρ0 hp0) w0 w'→Γ.E w') (I:Inv P Γ ops K ρ0 hp0 w0 listed a w pre ss late tm hp ρ tmR) {x:Late} (hx:x∈yz listed late) (hrd: ∀e∈xe x.o,listed.getD e false=true) {Kc:Act→World→Prop}
    (hK: ∀a' w' ρ' tmR',Inv P Γ ops K ρ0 hp0 w0 (listed.setIfInBounds x.i true) a' w' pre ss late tm hp ρ' tmR'→Kc a' w'):wpOp P ops Q x.i Kc a w:=by
  obtain ⟨hxl,hxu⟩:=y5.1 hx
  have hbef: ∀{k:Nat},Before ops k x.i→listed.getD k false=true:=fun hb=>
    hb.listed (L:=fun i=>listed.getD i false=true) I.down fun o ho e he=>hrd e (by rw [I.get x hxl] at ho;cases ho;exact he)
  obtain ⟨A,B,hAB,hpe,f1,f2,f3,hav,hI⟩:=I.core hx hrd
  have hsame:(∀b,x.k≠ .maker b)→ ∀b,b∈xm (yz listed late)→b∈xm (A++B):=fun hk b hb=>by
    obtain ⟨z,h1,h2⟩:=yo.1 hb
    rw [hAB] at h1
    rcases List.mem_append.1 h1 with h|h
    ·exact yo.2 ⟨z,by simp [h],h2⟩
    ·rcases List.mem_cons.1 h with h|h
     ·subst h;exact absurd h2 (hk b)
     ·exact yo.2 ⟨z,by simp [h],h2⟩
  unfold zaa at f1
  split at f1
  ·rename_i hk
   have hst:Step ρ0 hp0 w0 ρ (mask (xm (A++B)) hp) w:=I.step.sub (by simp [z9]) fun k el ps hkk=>by
     rw [yy] at hkk ⊢
     exact ⟨fun h=>hkk.1 (hsame (fun b h=>by rw [hk] at h;cases h) k h),hkk.2⟩
   exact (f1 ρ a I.tmr).wpOp (I.get x hxl) (hK _ _ _ _ (hI _ w ρ (I.tmr.put f3 f2) hst))
  ·rename_i M hk
   have hst:Step ρ0 hp0 w0 ρ (mask (xm (A++B)) hp) w:=I.step.sub (by simp [z9]) fun k el ps hkk=>by
     rw [yy] at hkk ⊢
     exact ⟨fun h=>hkk.1 (hsame (fun b h=>by rw [hk] at h;cases h) k h),hkk.2⟩
   have hrel:HpRel ρ (mask M hp) w:=I.step.rel.sub fun k el ps hkk=>by
     rw [yy] at hkk ⊢
     refine ⟨⟨fun h=>hkk.1 ?_,hkk.2⟩,by rw [z9];exact I.hpok k el ps hkk.2⟩
     obtain ⟨z,h1,h2⟩:=yo.1 h
     refine (I.rmask x hxl M hk z (y5.1 h1).1 k h2).resolve_left fun hb=>?_
     have:=(y5.1 h1).2
     rw [hbef hb] at this;cases this
   exact zar (I.get x hxl) (f1.1 ρ a I.tmr) (f1.2 ρ a w I.tmr hrel (hE w I.step.ext)) (hK _ _ _ _ (hI _ w ρ (I.tmr.put f3 f2) hst))
  ·rename_i b hk
   obtain ⟨hw,el,ps,h1,h2,h3,h4,h5⟩:=f1
   have hbp:b∈xm (yz listed late):=yo.2 ⟨x,hx,hk⟩
   obtain ⟨hb0,hbl⟩:=I.mblk x hxl b hk
   have htm:TmRel Γ.nt (upd ρ b w.heap.size) hp.length tmR a:=I.tmr.re fun t v hv=>
     SV.den_congr (p:=(· ∉xm (yz listed late))) (fun k hk'=>by
       have:k≠b:=fun e=>hk' (e ▸ hbp)
       simp [upd,this]) v (I.a1 t v hv)
   refine zar (I.get x hxl) (hw ρ a I.tmr) (h5 ρ a I.tmr (upd ρ b w.heap.size) w (by simp [upd])) (hK _ _ _ _ (hI _ _ (upd ρ b w.heap.size) (htm.put f3 f2) ?_))
   refine I.step.place hb0 (by rwa [z9]) (fun el ps h=>(yy.1 h).1 hbp) (el:=el) (by rwa [z9]) h4 (fun k el' qs hkk=>?_) (by simp [z9]) (fun k el' qs hkk=>?_)
   ·rw [yy] at hkk
    exact ym (fun y (hy:y∉xm (yz listed late)) (e:y=b)=>hy (by rw [e];exact hbp)) _ (I.a2 k el' qs hkk.1 hkk.2)
   ·rw [yy] at hkk
    by_cases hkb:k=b
    ·subst hkb
     rw [h1] at hkk
     have:=hkk.2
     cases this
     exact .inr ⟨rfl,rfl,rfl⟩
    ·refine .inl ⟨hkb,yy.2 ⟨fun h=>?_,hkk.2⟩⟩
     obtain ⟨z,g1,g2⟩:=yo.1 h
     rw [hAB] at g1
     rcases List.mem_append.1 g1 with h|h
     ·exact hkk.1 (yo.2 ⟨z,by simp [h],g2⟩)
     ·rcases List.mem_cons.1 h with h|h
      ·subst h;rw [hk] at g2;cases g2;exact hkb rfl
      ·exact hkk.1 (yo.2 ⟨z,by simp [h],g2⟩)
def zkm (Γ:Ctx) (all:List Oper) (s:PStep) (ss:List PStep) (o:Oper) (late:List Late) (tm:List (Nat×SV)) (hp:List Blk) (K:St→Prop):Prop:=
  zaw s.loose late fun M=>zjf M hp fun hm=>za5 Γ o.op tm hm
          (fun v hp1=>zde M v (zcj M hp1 (zef hp M hp1 fun hp2=>zce Γ.nt tm hp2 o.dst v fun st=>match st with|⟨tm',hp'⟩=>reK Γ tm' hp' s.loose late (zc8 Γ all ss late tm' hp' K))))
          (fun hp1=>zcj M hp1 (zef hp M hp1 fun hp2=>match o.dst with
            |none=>reK Γ tm hp2 s.loose late (zc8 Γ all ss late tm hp2 K)
            |some _=>False))
theorem zu8 (hns: ∀(j:Nat) (o:Oper) cs b,ops[j]?=some o→o.op≠ .select cs b) {o:Oper} {i:Nat} (ho:ops[i]?=some o): ∀{xs:List Late} {tm tm':List (Nat×SV)} {a:Act},xt P Γ ops hp tm xs tm'→TmRel Γ.nt ρ hp.length tm a→
    (∀y∈xs,∀d,y.o.dst=some d→d∉o.looksAt ops)→
    ∃a',TmRel Γ.nt ρ hp.length tm' a'∧execOp a'.eval o=execOp a.eval o∧Region.wanted o (yielded ops a'.tmps)=Region.wanted o (yielded ops a.tmps)
  | [],_,_,a,h,ht,_=>⟨a,ht.same fun t=>(h t).symm,rfl,rfl⟩
  |x ::xs,_,_,a,⟨_,h2,h3,h4⟩,ht,hd=>by
   obtain ⟨a',g1,g2,g3⟩:=zu8 hns ho h4 (ht.put h3 h2) (fun y hy=>hd y (by simp [hy]))
   exact ⟨a',g1,by rw [g2,execOp_put o (fun cs b=>hns _ _ cs b ho) a _ _ (hd x (by simp))],by rw [g3,wanted_put o a _ _ (hd x (by simp))]⟩
theorem Inv.anchor (hΓ:CtxOK P Γ) (I:Inv P Γ ops K ρ0 hp0 w0 listed a w pre (s ::ss) late tm hp ρ tmR) {o:Oper} {T':Table} (S:StepOK Γ ops pre s ss o) (hT:zej ops T') (hpl:zc6 ops Γ (s ::pre) ss T'=true)
    (hka:zak Γ o.op= .anchor) (hw:zgc Γ ops hp.length o tm) (hvc:zkm Γ ops.toList s ss o late tm hp K) (hrd: ∀e∈xe o,listed.getD e false=true) {Kc:Act→World→Prop}
    (hK: ∀a' w' hp' ρ' tm' tmR',Inv P Γ ops K ρ0 hp0 w0 (listed.setIfInBounds s.i true) a' w' (s ::pre) ss late tm' hp' ρ' tmR'→Kc a' w'):wpOp P ops Q s.i Kc a w:=by
  have hns: ∀(j:Nat) (o:Oper) cs b,ops[j]?=some o→o.op≠ .select cs b:=I.nsel
  have hlt:s.i<listed.size:=by rw [I.size];exact (Array.getElem?_eq_some_iff.1 S.get).1
  have hne: ∀x∈late,x.i≠s.i:=fun x hx=>by obtain ⟨p,h1,h2⟩:=I.along.mem x hx;rw [←h2];exact S.new p h1
  have hbef: ∀{k:Nat},Before ops k s.i→listed.getD k false=true:=fun hb=>
    hb.listed (L:=fun i=>listed.getD i false=true) I.down fun o' ho' e he=>hrd e (by rw [S.get] at ho';cases ho';exact he)
  have hlo: ∀x∈yz listed late,x.i∈s.loose∧x.o.apart ops o=true:=fun x hx=>by
    obtain ⟨hxl,hxu⟩:=y5.1 hx
    obtain ⟨p,h1,h2⟩:=I.along.mem x hxl
    rcases S.pairs p h1 with ⟨g1,y,g2,g3⟩|⟨g1,g2⟩
    ·rw [h2] at g1 g2
     rw [I.get x hxl] at g2
     cases g2
     exact ⟨g1,g3⟩
    ·rw [h2] at g2;rw [hbef g2] at hxu;cases hxu
  have hpe:yz (listed.setIfInBounds s.i true) late=yz listed late:=by
    unfold yz
    congr 1
    apply List.filter_congr
    intro y hy
    rw [getD_set_ne false (fun h=>hne y hy h.symm)]
  obtain ⟨htm,hxs⟩:=zgw I.chain I.tmr.okay
  obtain ⟨a1,ha1,hex,hwa⟩:=zu8 hns S.get I.chain I.tmr fun y hy d hd=>(Oper.apart_spec (hlo y hy).2).1 d hd
  have hwant:Region.wanted o (yielded ops a.tmps)=true:=by rw [←hwa];exact hw ρ a1 ha1
  have hD: ∀b∈xm (yz listed late),b∈x5 s.loose late:=fun b hb=>by
    obtain ⟨z,h1,h2⟩:=yo.1 hb
    exact zab.2 ⟨z,(y5.1 h1).1,h2,(hlo z h1).1⟩
  have hM: ∀b∈x5 s.loose late,b<hp.length:=fun b hb=>by
    obtain ⟨z,h1,h2,_⟩:=zab.1 hb
    exact (I.mblk z h1 b h2).2
  have h1:=zj0 (zbq hvc)
  clear hvc
  generalize hMd:x5 s.loose late=M at*
  have hrel:HpRel ρ (mask M hp) w:=I.step.rel.sub fun k el ps hk=>by
    rw [yy] at hk ⊢
    exact ⟨⟨fun h=>hk.1 (hD k h),hk.2⟩,by rw [z9];exact I.hpok k el ps hk.2⟩
  have core: ∀(v:SV) (ρ':Nat→Nat) (hp1:List Blk) (w':World) (tm':List (Nat×SV)),v.ok (· <hp1.length)→v.ok (· ∉M)→Step ρ (mask M hp) w ρ' hp1 w'→(∀d,o.dst=some d→d<Γ.nt)→
   zcj M hp1 (zef hp M hp1 fun hp2=>tm'=zai tm o.dst v∧reK Γ tm' hp2 s.loose late (zc8 Γ ops.toList ss late tm' hp2 K))→Kc (a.put o.dst (v.den ρ')) w':=by
    intro v ρ' hp1 w' tm' hv hvM T hd hf
    obtain ⟨hf,hfree⟩:=zhn hf
    obtain ⟨⟨rfl,hf⟩,hMl⟩:=zjr hf
    obtain ⟨hvc,hre⟩:=zug hf
    have hget: ∀k,(zb1 hp M hp1)[k]?=if k∈M then hp[k]? else hp1[k]?:=fun k=>zlu hMl
    have hlen:(zb1 hp M hp1).length=hp1.length:=zgb
    have hle:hp.length≤(zb1 hp M hp1).length:=by have:=T.le;rw [z9] at this;omega
    have hsame: ∀k,k<hp.length→ρ' k=ρ k:=fun k hk=>T.same k (by rwa [z9])
    have hst:=I.step.through hD hM T hlen hget
    have htm':TmRel Γ.nt ρ' (zb1 hp M hp1).length (zai tmR o.dst v) (a.put o.dst (v.den ρ')):=(I.tmr.later hsame hle).put hd (by rw [hlen];exact hv)
    refine hK _ _ _ ρ' _ (zai tmR o.dst v) {I with
      size:=by simp [I.size]
      down:=fun i o' hi ho e he=>?_
      real:=fun i hi=>?_
      virt:=fun p hp=>?_
      along:= .skip I.along
      mblk:=fun z hz b hb=>by have:=I.mblk z hz b hb;exact ⟨this.1,by omega⟩
      avoid:=fun y hy z hz b hb hyz=>?_
      tmr:=htm'
      chain:=?_
      step:=by rw [hpe];exact hst
      hpok:=fun k el ps hk=>?_
      a1:=fun t u hu=>?_
      a2:=fun c el ps hc hcc=>?_
      plan:=⟨T',hT,hpl⟩
      vc:=hvc}
    ·rw [zax hlt] at hi ⊢
     rcases hi with rfl|hi
     ·rw [S.get] at ho;cases ho;exact .inr (hrd e he)
     ·exact .inr (I.down i o' hi ho e he)
    ·rw [zax hlt] at hi
     rcases hi with rfl|hi
     ·exact ⟨s,by simp,rfl⟩
     ·obtain ⟨p,h1,h2⟩:=I.real i hi;exact ⟨p,by simp [h1],h2⟩
    ·rw [zax hlt]
     rcases List.mem_cons.1 hp with rfl|hp
     ·exact .inl (.inl rfl)
     ·rcases I.virt p hp with h|h
      ·exact .inl (.inr h)
      ·exact .inr h
    ·rw [hpe] at hy hz
     rcases I.avoid y hy z hz b hb hyz with h|⟨h,h'⟩
     ·exact .inl h
     ·refine .inr ⟨h,fun c el ps hc hcc=>h' c el ps hc ?_⟩
      rw [hget,if_pos (hD c (yo.2 ⟨y,hy,hc⟩))] at hcc
      exact hcc
    ·rw [hpe]
     obtain ⟨hself,hpair⟩:(∀x∈yz listed late,∀M,x.k= .read M→(∀e,x.o.dst=some e→e∉x.o.looksAt ops))∧
         ((yz listed late).Pairwise fun x y=> ∀M,x.k= .read M→ ∀e,y.o.dst=some e→e∉x.o.looksAt ops):=by
       obtain ⟨g1,g2⟩:=z0j I.along (S.reads hka) I.get
       refine ⟨fun x hx M' hM'=>(g1 x (y5.1 hx).1 (I.rkind x (y5.1 hx).1 M' hM') (hlo x hx).1).1,?_⟩
       have g3:(yz listed late).Pairwise fun x y=>zak Γ x.o.op= .read→x.i∈s.loose→ ∀e,y.o.dst=some e→e∉x.o.looksAt ops:=by
         unfold yz
         rw [List.pairwise_reverse]
         exact g2.filter _
       refine g3.imp_of_mem fun {x y} hx hy h M' hM'=>h (I.rkind x (y5.1 hx).1 M' hM') (hlo x hx).1
     refine I.chain.anchor hns hle rfl hd (by rw [hlen];exact hv) I.tmr.okay (fun x hx=>⟨I.get x (y5.1 hx).1,(hlo x hx).2⟩) (fun x hx b hb=>by rw [hget,if_pos (hD b (yo.2 ⟨x,hx,hb⟩))])
       (fun x hx M' hM' ρ2 a2 w2 ht2 hw2 hE2=>?_) hpair hself
     obtain ⟨u,rfl,_,hr⟩:=zju (P:=P) hΓ hw2 (by rw [z9];exact ht2) x.o (hre x (y5.1 hx).1 M' hM' (hlo x hx).1)
     exact hr hE2
    ·rw [hlen]
     rw [hget] at hk
     split at hk
     ·exact ym (fun x hx=>by omega) _ (I.hpok k el ps hk)
     ·exact (T.rel.mem k el ps hk).1
    ·rw [hpe]
     rw [y6] at hu
     split at hu
     ·cases hu;exact SV.ok_mono (fun x hx h=>hx (hD x h)) v hvM
     ·exact I.a1 t u hu
    ·rw [hpe] at hc ⊢
     rw [hget] at hcc
     split at hcc
     ·exact I.a2 c el ps hc hcc
     ·exact ym (fun x hx h=>hx (hD x h)) _ (hfree c el ps _ hcc (T.rel.mem c el ps hcc).1)
  have hval: ∀(v:SV) (ρ':Nat→Nat) (hp1:List Blk) (w':World),v.ok (· <hp1.length)→Step ρ (mask M hp) w ρ' hp1 w'→
   zde M v (zcj M hp1 (zef hp M hp1 fun hp2=>zce Γ.nt tm hp2 o.dst v fun st=>match st with|⟨tm',hp'⟩=>reK Γ tm' hp' s.loose late (zc8 Γ ops.toList ss late tm' hp' K)))→Kc (a.put o.dst (v.den ρ')) w':=by
    intro v ρ' hp1 w' hv T hf
    obtain ⟨hvM,hf⟩:=zjs hv hf
    have hd: ∀d,o.dst=some d→d<Γ.nt:=(zcw (zjr (zhn hf).1).1).1
    refine core v ρ' hp1 w' (zai tm o.dst v) hv hvM T hd ?_
    have h2: ∀hp2,(zce Γ.nt tm hp2 o.dst v fun st=>match st with|⟨tm',hp'⟩=>reK Γ tm' hp' s.loose late (zc8 Γ ops.toList ss late tm' hp' K))→
     (zai tm o.dst v=zai tm o.dst v∧reK Γ (zai tm o.dst v) hp2 s.loose late (zc8 Γ ops.toList ss late (zai tm o.dst v) hp2 K)):=fun hp2 h=>⟨rfl,(zcw h).2⟩
    exact zf7 hf fun h=>zif h h2
  rcases zmy hΓ hrel (by rw [z9];exact ha1) o h1 with ⟨v,ρ',hp1,w',hr,hv,T,hf⟩|⟨hp1,w',hr,T,hf⟩|⟨f,args,hr,hc⟩
  ·rw [hex] at hr
   exact zar S.get hwant hr (hval v ρ' hp1 w' hv T hf)
  ·rw [hex] at hr
   unfold wpOp
   simp only [S.get,hwant,if_true,Oper.wp,hr,Oper.upon]
   refine .inl ?_
   have hdn:o.dst=none:=by
     have:=(zjr (zhn hf).1).1
     cases hd:o.dst with
     |none=>rfl
     |some d=>rw [hd] at this;exact this.elim
   have:=core (.tup []) ρ hp1 w' tm (by simp [SV.ok,okL]) (by simp [SV.ok,okL]) (by
     exact T) (fun d hd=>by rw [hdn] at hd;cases hd) (zf7 hf fun h=>zif h fun hp2 h=>by
       rw [hdn] at h;rw [hdn];exact ⟨rfl,h⟩)
   rw [hdn] at this ⊢
   exact this
  ·rw [hex] at hr
   unfold wpOp
   simp only [S.get,hwant,if_true,Oper.wp,hr,Oper.upon]
   refine .inl (hc.mono fun e w' ⟨v,ρ',hp1,he,hv,T,hf⟩=>?_)
   subst he
   exact hval v ρ' hp1 w' hv T hf
end
end Go.Sym
