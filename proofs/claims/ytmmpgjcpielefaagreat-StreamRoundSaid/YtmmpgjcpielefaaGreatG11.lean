/-
  Contracts of functions of the program, each said of symbolic values, and plain laws; no condition beyond each statement's own.
-/
import Derived.Test.YtmmpgjcpielefaaGreatG10
set_option linter.unusedSimpArgs false
set_option linter.unusedVariables false
namespace Go.Sym
def Ret {α:Type} (F:(α→Prop)→Prop):Prop:= ∀k,F k→ ∃x,k x∧ ∀k':α→Prop,k' x→F k'
theorem z1q {α:Type} (x:α):Ret (fun k=>k x):=fun _ h=>⟨x,h,fun _ h=>h⟩
theorem zd {α:Type}:Ret (fun _:α→Prop=>False):=fun _ h=>h.elim
theorem yl {α:Type} {p:Prop} {F:(α→Prop)→Prop} (h:Ret F):Ret (fun k=>Pre p (F k)):=fun k hk=>by
  obtain ⟨h1,h2⟩:=zi hk
  obtain ⟨x,h3,h4⟩:=h k h2
  exact ⟨x,h3,fun k' h=>zv h1 (h4 k' h)⟩
theorem z4r {R:SV→Prop}:Ret (fun k:SV→Prop=>zlh R k):=fun k hk=>by
  obtain ⟨v,h1,h2⟩:=z5e hk
  exact ⟨v,h2,fun k' h=>zzo v h1 h⟩
theorem z1k {α:Type} {t:Bool} {F G:(α→Prop)→Prop} (h:Ret F) (h':Ret G):Ret (fun k=>yg t (F k) (G k)):=fun k hk=>by
  obtain ⟨h1,h2⟩:=yc hk
  cases t with
  |true=>
   obtain ⟨x,h3,h4⟩:=h k (h1 rfl)
   exact ⟨x,h3,fun k' h=>zr rfl (h4 k' h)⟩
  |false=>
   obtain ⟨x,h3,h4⟩:=h' k (h2 rfl)
   exact ⟨x,h3,fun k' h=>zq rfl (h4 k' h)⟩
section
variable {β:Type}
theorem zjg {α:Type} {a b:List α} {G:List α→(β→Prop)→Prop} (h: ∀l,Ret (G l)):Ret (fun k=>zc8 a b fun l=>G l k):=by
  induction a generalizing G with
  |nil=>exact h _
  |cons y ys ih=>exact ih (G:=fun l=>G (y ::l)) fun l=>h _
theorem z63 {α:Type} {l:List α} {i:Nat} {x:α} {G:List α→(β→Prop)→Prop} (h: ∀l,Ret (G l)):Ret (fun k=>zij l i x fun l=>G l k):=by
  induction l generalizing G i with
  |nil=>exact zd
  |cons y ys ih=>
   cases i with
   |zero=>exact h _
   |succ i=>exact ih (G:=fun l=>G (y ::l)) fun l=>h _
theorem zjp {α:Type} {l:List α} {i:Nat} {G:α→(β→Prop)→Prop} (h: ∀x,Ret (G x)):Ret (fun k=>zdt l i fun x=>G x k):=by
  induction l generalizing i with
  |nil=>exact zd
  |cons y ys ih=>
   cases i with
   |zero=>exact h _
   |succ i=>exact ih
theorem yi {α:Type} {l:List (Nat×α)} {n:Nat} {G:α→(β→Prop)→Prop} (h: ∀x,Ret (G x)):Ret (fun k=>ye l n fun x=>G x k):=by
  induction l with
  |nil=>exact zd
  |cons p r ih=>
   obtain ⟨i,v⟩:=p
   simp only [ye]
   generalize Nat.beq i n=t
   cases t
   ·exact ih
   ·exact h _
theorem z1u {v:Value} {G:SV→(β→Prop)→Prop} (h: ∀x,Ret (G x)):Ret (fun k=>zm8 v fun x=>G x k):=by
  intro k hk
  unfold zm8 at hk ⊢
  split at hk
  case h_12=>exact hk.elim
  all_goals (try split at hk)
  all_goals first
    |exact hk.elim
    |exact h _ k hk
    |(rename_i e;simp only [e];exact h _ k hk)
theorem zaj {tm:List (Nat×SV)} {x:Operand} {G:SV→(β→Prop)→Prop} (h: ∀x,Ret (G x)):Ret (fun k=>evK tm x fun x=>G x k):=by
  cases x with
  |tmp t=>exact yi h
  |const v=>exact z1u h
  |func f=>exact h _
  |global g=>exact zd
theorem zz4 {tm:List (Nat×SV)} {xs:List Operand} {G:List SV→(β→Prop)→Prop} (h: ∀x,Ret (G x)):Ret (fun k=>zwn tm xs fun x=>G x k):=by
  induction xs generalizing G with
  |nil=>exact h _
  |cons x xs ih=>exact zaj fun v=>ih (G:=fun vs=>G (v ::vs)) fun vs=>h _
theorem znn {tm:List (Nat×SV)} {xs:List (Nat×Operand)} {G:List (Nat×SV)→(β→Prop)→Prop} (h: ∀x,Ret (G x)):Ret (fun k=>zh9 tm xs fun x=>G x k):=by
  induction xs generalizing G with
  |nil=>exact h _
  |cons x xs ih=>
   obtain ⟨i,x⟩:=x
   exact zaj fun v=>ih (G:=fun vs=>G ((i,v) ::vs)) fun vs=>h _
theorem zly {v:SV} {G:Nat→(β→Prop)→Prop} (h: ∀x,Ret (G x)):Ret (fun k=>zr8 v fun x=>G x k):=by
  cases v<;>first|exact zd|exact h _|exact yl (h _)
theorem zqe {v:SV} {G:Nat→(β→Prop)→Prop} (h: ∀x,Ret (G x)):Ret (fun k=>z22 v fun x=>G x k):=by
  cases v<;>first|exact zd|exact h _|exact yl (h _)
theorem zjk {tm:List (Nat×SV)} {x:Option Operand} {G:Option Nat→(β→Prop)→Prop} (h: ∀x,Ret (G x)):Ret (fun k=>zgo tm x fun x=>G x k):=by
  cases x with
  |none=>exact h _
  |some x=>exact zaj fun v=>zly (G:=fun n=>G (some n)) fun n=>h _
theorem zhm {ps:List SV} {j b:Nat} {G:List SV→List SV→(β→Prop)→Prop} (h: ∀a r,Ret (G a r)):Ret (fun k=>zbk ps j b fun a r=>G a r k):=by
  induction ps generalizing j b G with
  |nil=>
   cases j with
   |zero=>
    simp only [zbk]
    generalize Nat.beq b 0=t
    cases t
    ·exact zd
    ·exact h _ _
   |succ j=>exact zd
  |cons p ps ih=>
   cases j with
   |zero=>
    simp only [zbk]
    generalize Nat.beq b 0=t
    cases t
    ·exact zd
    ·exact h _ _
   |succ j=>
    simp only [zbk]
    generalize Nat.ble p.size b=t
    cases t
    ·exact zd
    ·exact ih (G:=fun a r=>G (p ::a) r) fun a r=>h _ _
theorem zvp {ps:List SV} {n:Nat} {G:List SV→List SV→(β→Prop)→Prop} (h: ∀a r,Ret (G a r)):Ret (fun k=>zfc ps n fun a r=>G a r k):=by
  induction ps generalizing n G with
  |nil=>
   cases n with
   |zero=>exact h _ _
   |succ n=>exact zd
  |cons p ps ih=>
   cases n with
   |zero=>exact h _ _
   |succ n=>
    simp only [zfc]
    generalize Nat.ble p.size (n+1)=t
    cases t
    ·exact zd
    ·exact ih (G:=fun a r=>G (p ::a) r) fun a r=>h _ _
theorem zvq {ps:List SV} {G:SV→(β→Prop)→Prop} (h: ∀v,Ret (G v)):Ret (fun k=>zh0 ps fun v=>G v k):=by
  match ps with
  | []=>exact h _
  | [p]=>
    simp only [zh0]
    generalize p.isRow=t
    cases t
    ·exact h _
    ·exact h _
  |p ::q ::r=>exact h _
theorem zkk {ps:List SV} {j b c:Nat} {G:Nat→Nat→List (Nat×Nat)→(β→Prop)→Prop} (h: ∀a b c,Ret (G a b c)):Ret (fun k=>zfq ps j b c fun x y z=>G x y z k):=by
  induction ps generalizing j b c with
  |nil=>
   cases c with
   |zero=>exact h _ _ _
   |succ c=>exact zd
  |cons p ps ih=>
   cases c with
   |zero=>exact h _ _ _
   |succ c=>
    simp only [zfq]
    generalize Nat.ble p.size (c+1)=t
    cases t
    ·generalize p.isRow=t
     cases t
     ·exact zd
     ·exact h _ _ _
    ·exact ih
theorem z7b:
    (∀v:SV,∀(G:List SV→(β→Prop)→Prop),(∀l,Ret (G l))→Ret (fun k=>zbq v fun l=>G l k))∧
    (∀vs:List SV,∀(G:List SV→(β→Prop)→Prop),(∀l,Ret (G l))→Ret (fun k=>zen vs fun l=>G l k)):=by
  have one: ∀v:SV,∀(G:List SV→(β→Prop)→Prop),(∀l,Ret (G l))→Ret (fun k=>zbq v fun l=>G l k):=fun v=>by
    refine SV.rec (motive_1:=fun v=> ∀(G:List SV→(β→Prop)→Prop),(∀l,Ret (G l))→Ret (fun k=>zbq v fun l=>G l k))
      (motive_2:=fun vs=> ∀(G:List SV→(β→Prop)→Prop),(∀l,Ret (G l))→Ret (fun k=>zen vs fun l=>G l k))
      ?_ ?_ ?_ ?_ ?_ ?_ ?_ ?_ ?_ ?_ ?_ ?_ ?_ ?_ ?_ ?_ ?_ ?_ ?_ ?_ ?_ ?_ ?_ ?_ ?_ ?_ ?_ v
    case refine_22=>intro ps ih G h;exact ih G h
    case refine_26=>intro G h;exact h _
    case refine_27=>
      intro v vs ihv ihs G h
      exact ihv (fun a k=>zen vs fun b=>zc8 a b fun l=>G l k) fun a=>ihs (fun b k=>zc8 a b fun l=>G l k) fun b=>zjg h
    all_goals (intros;rename_i h;exact h _)
  refine ⟨one,fun vs=>?_⟩
  induction vs with
  |nil=>intro G h;exact h _
  |cons v vs ih=>
   intro G h
   exact one v (fun a k=>zen vs fun b=>zc8 a b fun l=>G l k) fun a=>ih (fun b k=>zc8 a b fun l=>G l k) fun b=>zjg h
theorem zei {v:SV} {G:List SV→(β→Prop)→Prop} (h: ∀l,Ret (G l)):Ret (fun k=>zbq v fun l=>G l k):=z7b.1 v G h
theorem zqw {o:List (Nat×Nat)} {es:Nat} {G:Nat→Nat→(β→Prop)→Prop} (h: ∀i c,Ret (G i c)):Ret (fun k=>zj0 o es fun i c=>G i c k):=by
  match o with
  | []=>exact h _ _
  | [(i,e)]=>
    simp only [zj0]
    generalize Nat.beq e es=t
    cases t
    ·exact zd
    ·exact h _ _
  | [(i,e),(c,1)]=>
    simp only [zj0]
    generalize Nat.beq e es=t
    cases t
    ·exact zd
    ·exact h _ _
  | [(i,e),(c,0)]=>exact zd
  | [(i,e),(c,n+2)]=>exact zd
  |x ::(c,n) ::z ::r=>simp only [zj0];exact zd
theorem z5i {a:At} {G:SV→(β→Prop)→Prop} (h: ∀v,Ret (G v)):Ret (fun k=>atK a fun v=>G v k):=by
  cases a<;>exact h _
theorem z6k {as:List At} {G:List SV→(β→Prop)→Prop} (h: ∀v,Ret (G v)):Ret (fun k=>z4x as fun v=>G v k):=by
  induction as generalizing G with
  |nil=>exact h _
  |cons a as ih=>exact z5i fun v=>ih (G:=fun vs=>G (v ::vs)) fun vs=>h _
theorem z45 {α:Type} {l:List α} {n:Nat} {G:List α→(β→Prop)→Prop} (h: ∀v,Ret (G v)):Ret (fun k=>zu8 l n fun v=>G v k):=by
  induction l generalizing n with
  |nil=>
   cases n with
   |zero=>exact h _
   |succ n=>exact zd
  |cons x xs ih=>
   cases n with
   |zero=>exact h _
   |succ n=>exact ih
theorem z01 {α:Type} {l:List α} {n:Nat} {G:List α→(β→Prop)→Prop} (h: ∀v,Ret (G v)):Ret (fun k=>zpz l n fun v=>G v k):=by
  induction l generalizing n G with
  |nil=>
   cases n with
   |zero=>exact h _
   |succ n=>exact zd
  |cons x xs ih=>
   cases n with
   |zero=>exact h _
   |succ n=>exact ih (G:=fun l=>G (x ::l)) fun l=>h _
theorem z42 {p:SV} {o:List (Nat×Nat)} {G:SV→(β→Prop)→Prop} (h: ∀v,Ret (G v)):Ret (fun k=>zmy p o fun v=>G v k):=by
  cases p
  case tab n es f=>dsimp only [zmy];exact zqw fun i c=>yl (zjp fun a=>z5i h)
  all_goals first
    |exact zd
    |exact yl (h _)
    |(cases o<;>first|exact h _|exact zd)
theorem z6p {p:SV} {o:List (Nat×Nat)} {m:Nat} {G:SV→(β→Prop)→Prop} (h: ∀v,Ret (G v)):Ret (fun k=>zq0 p o m fun v=>G v k):=by
  cases p
  case tab n es f=>dsimp only [zq0];exact zqw fun i c=>yl (z45 fun r=>z01 fun as=>z6k (G:=fun vs=>G (.agg vs)) fun vs=>h _)
  all_goals first
    |exact zd
    |exact yl (h _)
theorem zkf {ti:TyI} {ps:List SV} {j b:Nat} {o:List (Nat×Nat)} {G:SV→(β→Prop)→Prop} (h: ∀v,Ret (G v)):Ret (fun k=>zmr ti ps j b o fun v=>G v k):=by
  obtain ⟨d,sz,bytes,zero,eqOk⟩:=ti
  refine zhm (G:=fun _ r k=>match (generalizing:=false) d with
    | .arr .. | .struct .. =>match (generalizing:=false) o with
      | []=>zfc r sz fun a _=>zh0 a fun v=>G v k
      |_=>match (generalizing:=false) r with|p ::_=>zq0 p o sz fun v=>G v k| []=>False
    |_=>match (generalizing:=false) r with|p ::_=>zmy p o (fun v=>G v k)| []=>False) fun a r=>?_
  have s:Ret (fun k=>match (generalizing:=false) r with|p ::_=>zmy p o (fun v=>G v k)| []=>False):=by
    cases r
    ·exact zd
    ·exact z42 h
  have t:Ret (fun k=>match (generalizing:=false) o with
   | []=>zfc r sz fun a _=>zh0 a fun v=>G v k
   |_=>match (generalizing:=false) r with|p ::_=>zq0 p o sz fun v=>G v k| []=>False):=by
    cases o with
    |nil=>exact zvp fun a _=>zvq h
    |cons x o=>
     cases r
     ·exact zd
     ·exact z6p h
  cases d<;>first|exact s|exact t
theorem z3f {vs:List SV} {G:List UInt64→(β→Prop)→Prop} (h: ∀v,Ret (G v)):Ret (fun k=>zr0 vs fun v=>G v k):=by
  induction vs generalizing G with
  |nil=>exact h _
  |cons v vs ih=>cases v<;>first|exact zd|exact ih (G:=fun l=>G (_ ::l)) fun l=>h _
theorem zvn {v:SV} {G:At→(β→Prop)→Prop} (h: ∀v,Ret (G v)):Ret (fun k=>znw v fun v=>G v k):=by
  cases v<;>first|exact zd|exact h _
theorem zsj {vs:List SV} {G:List At→(β→Prop)→Prop} (h: ∀v,Ret (G v)):Ret (fun k=>zj3 vs fun v=>G v k):=by
  induction vs generalizing G with
  |nil=>exact h _
  |cons v vs ih=>exact zvn fun a=>ih (G:=fun as=>G (a ::as)) fun l=>h _
theorem zsl {p:SV} {o:List (Nat×Nat)} {v:SV} {G:SV→(β→Prop)→Prop} (h: ∀v,Ret (G v)):Ret (fun k=>zem p o v fun v=>G v k):=by
  have plain:Ret (fun k=>match (generalizing:=false) o with
    | []=>match (generalizing:=false) v.scalar with|true=>G v k|false=>False
    |_=>False):=by
    cases o with
    |nil=>
     generalize v.scalar=t
     cases t
     ·exact zd
     ·exact h _
    |cons x o=>exact zd
  cases p
  case tab n es f=>
    have one:Ret (fun k=>znw v fun a=>zj0 o es fun i c=>Pre (i<n) (zij (f i) c a fun r=>G (.tab n es (zfj f i r)) k)):=
      zvn fun a=>zqw fun i c=>yl (z63 (G:=fun r=>G (.tab n es (zfj f i r))) fun r=>h _)
    cases v
    case agg vs=>
      refine zsj (G:=fun as k=>zj0 o es fun i c=>match (generalizing:=false) c with
        |0=>Pre (i<n∧as.length=es) (G (.tab n es (zfj f i as)) k)
        |_=>False) fun as=>zqw (G:=fun i c k=>match (generalizing:=false) c with
        |0=>Pre (i<n∧as.length=es) (G (.tab n es (zfj f i as)) k)
        |_=>False) fun i c=>?_
      cases c
      ·exact yl (h _)
      ·exact zd
    all_goals exact one
  case arr8 n l=>cases v<;>first|exact zd|exact yl (h _)
  case arr32 n l=>cases v<;>first|exact zd|exact yl (h _)
  case arr64 n l=>cases v<;>first|exact zd|exact yl (h _)|exact z3f fun x=>yl (h _)
  case arri n l=>cases v<;>first|exact zd|exact yl (h _)
  case arrs n l=>cases v<;>first|exact zd|exact yl (h _)
  case agg ps=>exact zd
  case tup ps=>exact zd
  all_goals (cases o<;>first|exact zd|(dsimp only [zem];exact plain))
theorem zme {ti:TyI} {ps:List SV} {j b:Nat} {o:List (Nat×Nat)} {v:SV} {G:List SV→(β→Prop)→Prop} (h: ∀v,Ret (G v)):Ret (fun k=>zeg ti ps j b o v fun v=>G v k):=by
  unfold zeg
  refine zhm (G:=fun a r k=>match (generalizing:=false) o with
    | []=>match (generalizing:=false) v.many with
      |true=>zfc r ti.sz fun _ r'=>zbq v fun fs=>match (generalizing:=false) Nat.beq (z6 fs) ti.sz with|true=>(match (generalizing:=false) zhe fs with|true=>zc8 fs r' fun q=>zc8 a q fun v=>G v k|false=>False)|false=>False
      |false=>match (generalizing:=false) Nat.beq ti.sz 1 with
       |true=>match (generalizing:=false) r with|p ::r'=>zem p [] v fun p'=>zc8 a (p' ::r') fun v=>G v k| []=>False
       |false=>False
    |_=>match (generalizing:=false) Nat.beq v.size ti.sz with
     |true=>match (generalizing:=false) r with|p ::r'=>zem p o v fun p'=>zc8 a (p' ::r') fun v=>G v k| []=>False
     |false=>False) fun a r=>?_
  cases o with
  |nil=>
   generalize v.many=t
   cases t
   ·generalize Nat.beq ti.sz 1=t
    cases t
    ·exact zd
    ·cases r with
     |nil=>exact zd
     |cons p r'=>exact zsl fun p'=>zjg h
   ·refine zvp fun _ r'=>zei (G:=fun fs k=>match (generalizing:=false) Nat.beq (z6 fs) ti.sz with|true=>(match (generalizing:=false) zhe fs with|true=>zc8 fs r' fun q=>zc8 a q fun v=>G v k|false=>False)|false=>False) fun fs=>?_
    generalize Nat.beq (z6 fs) ti.sz=t
    cases t
    ·exact zd
    ·generalize zhe fs=t
     cases t
     ·exact zd
     ·exact zjg fun q=>zjg h
  |cons x o=>
   dsimp only
   generalize Nat.beq v.size ti.sz=t
   cases t
   ·exact zd
   ·cases r with
    |nil=>exact zd
    |cons p r'=>exact zsl fun p'=>zjg h
theorem z6c {op:BinOp} {a b:Int} {G:SV→(β→Prop)→Prop} (h: ∀v,Ret (G v)):Ret (fun k=>z24 op a b fun v=>G v k):=by
  cases op<;>first|exact zd|exact h _|exact yl (h _)
theorem yal {op:BinOp} {a b:UInt8} {G:SV→(β→Prop)→Prop} (h: ∀v,Ret (G v)):Ret (fun k=>u8K op a b fun v=>G v k):=by
  cases op<;>first|exact zd|exact h _|exact yl (h _)
theorem z6s {op:BinOp} {a b:UInt16} {G:SV→(β→Prop)→Prop} (h: ∀v,Ret (G v)):Ret (fun k=>z3t op a b fun v=>G v k):=by
  cases op<;>first|exact zd|exact h _|exact yl (h _)
theorem z7r {op:BinOp} {a b:UInt32} {G:SV→(β→Prop)→Prop} (h: ∀v,Ret (G v)):Ret (fun k=>z4d op a b fun v=>G v k):=by
  cases op<;>first|exact zd|exact h _|exact yl (h _)
theorem z7j {op:BinOp} {a b:UInt64} {G:SV→(β→Prop)→Prop} (h: ∀v,Ret (G v)):Ret (fun k=>z4w op a b fun v=>G v k):=by
  cases op<;>first|exact zd|exact h _|exact yl (h _)
theorem z57 {op:BinOp} {a b:List UInt8} {G:SV→(β→Prop)→Prop} (h: ∀v,Ret (G v)):Ret (fun k=>z30 op a b fun v=>G v k):=by
  cases op<;>first|exact zd|exact h _|exact yl (h _)
theorem z7h {x y:SV} {G:SV→(β→Prop)→Prop} (h: ∀v,Ret (G v)):Ret (fun k=>z29 x y fun v=>G v k):=by
  cases x<;>first
    |exact zqe fun n=>yl (h _)
    |exact zqe fun n=>zd
theorem z64 {x y:SV} {G:SV→(β→Prop)→Prop} (h: ∀v,Ret (G v)):Ret (fun k=>z48 x y fun v=>G v k):=by
  cases x<;>first
    |exact zqe fun n=>yl (h _)
    |exact zqe fun n=>zd
theorem z6i {op:BinOp} {x y:SV} {G:SV→(β→Prop)→Prop} (h: ∀v,Ret (G v)):Ret (fun k=>zxr op x y fun v=>G v k):=by
  cases op
  case shl=>exact z7h h
  case shr=>exact z64 h
  all_goals
    cases x<;>first
      |exact zd
      |(cases y<;>dsimp only [zxr]<;>first|exact zd|exact z6c h|exact yal h|exact z6s h|exact z7r h|exact z7j h|exact z57 h)
theorem yaa {op:UnOp} {x:SV} {G:SV→(β→Prop)→Prop} (h: ∀v,Ret (G v)):Ret (fun k=>unK op x fun v=>G v k):=by
  cases op<;>cases x<;>first|exact zd|exact h _|exact yl (h _)
theorem zue {d:IntKind} {x:SV} {G:SV→(β→Prop)→Prop} (h: ∀v,Ret (G v)):Ret (fun k=>zf0 d x fun v=>G v k):=by
  cases d<;>cases x<;>first|exact zd|exact h _|exact yl (h _)
end
end Go.Sym

namespace Go.Sym
section
variable {β:Type} {Γ:Ctx}
theorem zk1 {hp:List Blk} {n:Nat} {G:TypeId→List SV→(β→Prop)→Prop} (h: ∀a b,Ret (G a b)):Ret (fun k=>zc7 hp n fun a b=>G a b k):=by
  refine zjp (G:=fun (b:Blk) k=>match (generalizing:=false) b with| .mk el ps=>G el ps k| .dead=>False) fun b=>?_
  cases b
  ·exact h _ _
  ·exact zd
theorem z7e {hp:List Blk} {n j b:Nat} {G:SV→(β→Prop)→Prop} (h: ∀v,Ret (G v)):Ret (fun k=>z0d hp n j b fun v=>G v k):=by
  refine zk1 fun _ ps=>zhm (G:=fun _ r k=>match (generalizing:=false) r with|p ::_=>G p k| []=>False) fun _ r=>?_
  cases r
  ·exact zd
  ·exact h _
theorem z19 {hp:List Blk} {v:SV} {G:List UInt8→(β→Prop)→Prop} (h: ∀v,Ret (G v)):Ret (fun k=>zhh hp v fun v=>G v k):=by
  cases v
  case sl k j b o n c=>
    refine z7e (G:=fun p k=>match (generalizing:=false) p with
      | .arr8 _ l=>Pre (off o+n≤l.length) (G ((l.drop (off o)).take n) k)
      |_=>False) fun p=>?_
    cases p<;>first|exact zd|exact yl (h _)
  all_goals first|exact zd|exact h _
theorem zl5 {fi:TyI} {ps:List SV} {c:Nat} {G:SV→(β→Prop)→Prop} (h: ∀v,Ret (G v)):Ret (fun k=>zf3 fi ps c fun v=>G v k):=by
  cases c with
  |zero=>dsimp only [zf3];exact zkf h
  |succ c=>dsimp only [zf3];exact zkk fun j b o=>zkf h
theorem ybg (f:Nat):(∀(t:TypeId) (x y:SV) (G:Bool→(β→Prop)→Prop),(∀v,Ret (G v))→Ret (fun k=>eqK Γ f t x y fun v=>G v k))∧
    (∀(fs:List (Nat×TypeId)) (xs ys:List SV) (G:Bool→(β→Prop)→Prop),(∀v,Ret (G v))→Ret (fun k=>zk7 Γ f fs xs ys fun v=>G v k)):=by
  induction f with
  |zero=>exact ⟨fun t x y G h=>by simp only [eqK];exact zd,fun fs xs ys G h=>by simp only [zk7];exact zd⟩
  |succ f ih=>
   refine ⟨fun t x y G h=>?_,fun fs xs ys G h=>?_⟩
   ·intro k hk
    simp only [eqK] at hk ⊢
    revert k
    refine yi (G:=fun ti k=>_) fun ti=>?_
    obtain ⟨d,sz,bytes,zero,eqOk⟩:=ti
    dsimp only
    cases d
    case int kd=>cases kd<;>first|exact zd|(cases x<;>first|exact zd|(cases y<;>first|exact zd|exact h _))
    case arr n e=>
      refine yi (G:=fun ei k=>_) fun ei=>?_
      obtain ⟨d,sz,bytes,zero,eqOk⟩:=ei
      dsimp only
      cases d
      case int kd=>
        cases kd<;>first
          |exact zd
          |(cases x<;>first
             |exact zd
             |(cases y<;>first
                |exact zd
                |(rename_i m a m' b
                  dsimp only
                  generalize Nat.beq m n=t
                  generalize Nat.beq m' n=t'
                  cases t
                  ·exact zd
                  ·cases t'
                   ·exact zd
                   ·exact h _)))
      all_goals exact zd
    case struct fs=>
      cases eqOk
      ·exact zd
      ·dsimp only
       generalize x.many=t
       generalize y.many=t'
       cases t
       ·exact zd
       ·cases t'
        ·exact zd
        ·exact zei fun xs=>zei fun ys=>ih.2 _ _ _ _ h
    all_goals first|exact zd|(cases x<;>first|exact zd|(cases y<;>first|exact zd|exact h _))
   ·cases fs with
    |nil=>simp only [zk7];exact h _
    |cons p fs=>
     obtain ⟨c,t⟩:=p
     simp only [zk7]
     exact yi fun ti=>zl5 fun a=>zl5 fun b=>ih.1 _ _ _ (fun r k=>zk7 Γ f fs xs ys fun r'=>G (r&&r') k) fun r=>ih.2 _ _ _ (fun r' k=>G (r&&r') k) fun r'=>h _
theorem z5b {f:Nat} {t:TypeId} {x y:SV} {G:Bool→(β→Prop)→Prop} (h: ∀v,Ret (G v)):Ret (fun k=>eqK Γ f t x y fun v=>G v k):=(ybg f).1 t x y G h
theorem z31 {op:BinOp} {t:TypeId} {x y:SV} {G:SV→(β→Prop)→Prop} (h: ∀v,Ret (G v)):Ret (fun k=>zvc Γ op t x y fun v=>G v k):=by
  have go: ∀(g:Bool→SV),Ret (fun k=>match (generalizing:=false) x.many with
   |true=>ye Γ.ty t fun ti=>match (generalizing:=false) ti.eqOk with|true=>eqK Γ 60 t x y (fun r=>G (g r) k)|false=>False
   |false=>eqK Γ 60 t x y (fun r=>G (g r) k)):=fun g=>by
    generalize x.many=m
    cases m
    ·exact z5b (G:=fun r=>G (g r)) fun r=>h _
    ·refine yi (G:=fun (ti:TyI) k=>match (generalizing:=false) ti.eqOk with|true=>eqK Γ 60 t x y (fun r=>G (g r) k)|false=>False) fun ti=>?_
     generalize ti.eqOk=q
     cases q
     ·exact zd
     ·exact z5b (G:=fun r=>G (g r)) fun r=>h _
  have big:Ret (fun k=>match (generalizing:=false) op with
    | .eql=>match (generalizing:=false) x.many with
      |true=>ye Γ.ty t fun ti=>match (generalizing:=false) ti.eqOk with|true=>eqK Γ 60 t x y (fun r=>G (.bool r) k)|false=>False
      |false=>eqK Γ 60 t x y (fun r=>G (.bool r) k)
    | .neq=>match (generalizing:=false) x.many with
      |true=>ye Γ.ty t fun ti=>match (generalizing:=false) ti.eqOk with|true=>eqK Γ 60 t x y (fun r=>G (.bool (!r)) k)|false=>False
      |false=>eqK Γ 60 t x y (fun r=>G (.bool (!r)) k)
    |_=>False):=by
    cases op<;>first|exact zd|exact go (fun r=> .bool r)|exact go (fun r=> .bool (!r))
  cases x<;>first|exact z6i h|exact big
theorem z0a {l:List UInt8} {lo hi:Option Nat} {G:SV→(β→Prop)→Prop} (h: ∀v,Ret (G v)):Ret (fun k=>zt8 l lo hi fun v=>G v k):=by
  cases lo<;>cases hi<;>first|exact h _|exact yl (h _)
theorem zsa {k j b:Nat} {o:List (Nat×Nat)} {n c es:Nat} {lo hi mx:Option Nat} {G:SV→(β→Prop)→Prop} (h: ∀v,Ret (G v)):Ret (fun K=>zlj k j b o n c es lo hi mx fun v=>G v K):=by
  cases lo<;>cases hi<;>cases mx<;>first|exact zd|exact h _|exact yl (h _)|exact yl (yl (h _))
theorem z13 {t:TypeId} {x:SV} {lo hi mx:Option Nat} {G:SV→(β→Prop)→Prop} (h: ∀v,Ret (G v)):Ret (fun K=>zp6 Γ t x lo hi mx fun v=>G v K):=by
  cases x
  case str l=>
    refine yi (G:=fun ti K=>_) fun ti=>?_
    obtain ⟨d,sz,bytes,zero,eqOk⟩:=ti
    cases d<;>first|exact zd|(cases mx<;>first|exact zd|exact z0a h)
  case nilsl=>
    refine yi (G:=fun ti K=>_) fun ti=>?_
    obtain ⟨d,sz,bytes,zero,eqOk⟩:=ti
    cases d<;>first|exact zd|(refine yi (G:=fun ti K=>_) fun ti=>?_;cases hi<;>cases mx<;>first|exact zd|exact yl (h _))
  case sl k j b o n c=>
    refine yi (G:=fun ti K=>_) fun ti=>?_
    obtain ⟨d,sz,bytes,zero,eqOk⟩:=ti
    cases d<;>first|exact zd|exact yi fun ei=>zsa h
  case ptr k j b o=>
    refine yi (G:=fun ti K=>_) fun ti=>?_
    obtain ⟨d,sz,bytes,zero,eqOk⟩:=ti
    cases d<;>first|exact zd|exact yi fun ei=>zsa h
  all_goals exact zd
theorem z7v {z:SV} {n:Nat} {G:List SV→(β→Prop)→Prop} (h: ∀v,Ret (G v)):Ret (fun K=>zt4 z n fun v=>G v K):=by
  induction n generalizing G with
  |zero=>exact h _
  |succ n ih=>exact ih (G:=fun l=>G (z ::l)) fun l=>h _
theorem zvm {z:SV} {n:Nat} {G:List SV→(β→Prop)→Prop} (h: ∀v,Ret (G v)):Ret (fun K=>zrv z n fun v=>G v K):=by
  cases z
  case arr8 m l=>cases l<;>first|exact zd|exact yl (h _)
  case agg ps=>
    refine zsj (G:=fun as K=>match (generalizing:=false) as with| []=>False|a ::r=>G [.tab n (r.length+1) fun _=>a ::r] K) fun as=>?_
    cases as
    ·exact zd
    ·exact h _
  all_goals first|exact zd|exact h _|exact z7v h
theorem ztm {ei:TyI} {ps:List SV} {i:Nat} {v:SV} {G:List SV→(β→Prop)→Prop} (h: ∀v,Ret (G v)):Ret (fun K=>zfk ei ps i v fun v=>G v K):=by
  have w:Ret (fun K=>zfq ps 0 0 (i*ei.sz) fun j b o=>zeg ei ps j b o v fun v=>G v K):=zkk fun j b o=>zme h
  match ps,w with
  | [],w=>exact w
  | [p],w=>
    dsimp only [zfk]
    generalize p.isRow=t
    cases t
    ·exact w
    ·exact zme h
  |p ::q ::r,w=>exact w
theorem zj7 {ei:TyI} {ps:List SV} {g:List (Nat×SV)} {G:List SV→(β→Prop)→Prop} (h: ∀v,Ret (G v)):Ret (fun K=>zd5 ei ps g fun v=>G v K):=by
  induction g generalizing ps with
  |nil=>exact h _
  |cons p r ih=>obtain ⟨i,v⟩:=p;exact ztm fun ps'=>ih
theorem zpg {fs:List (Nat×TypeId)} {ps:List SV} {g:List (Nat×SV)} {G:List SV→(β→Prop)→Prop} (h: ∀v,Ret (G v)):Ret (fun K=>zc3 Γ fs ps g fun v=>G v K):=by
  induction g generalizing ps with
  |nil=>exact h _
  |cons p r ih=>obtain ⟨i,v⟩:=p;exact zjp fun ft=>yi fun fi=>zkk fun j b o=>zme fun ps'=>ih
theorem zyc {fs:List (Nat×TypeId)} {F:(β→Prop)→Prop} (h:Ret F):Ret (fun K=>zmm Γ fs (F K)):=by
  induction fs with
  |nil=>exact h
  |cons p r ih=>obtain ⟨i,v⟩:=p;exact yi fun _=>ih
theorem z0z {t:TypeId} {g:List (Nat×SV)} {G:SV→(β→Prop)→Prop} (h: ∀v,Ret (G v)):Ret (fun K=>zqf Γ t g fun v=>G v K):=by
  refine yi (G:=fun ti K=>_) fun ti=>?_
  obtain ⟨d,sz,bytes,zero,eqOk⟩:=ti
  dsimp only
  generalize zero.many=m
  cases m
  ·exact zd
  ·refine zei (G:=fun zs K=>_) fun zs=>?_
   cases d
   case struct fs=>exact zyc (zpg (G:=fun ps=>G (.agg ps)) fun ps=>h _)
   case arr n e=>exact yi fun ei=>zj7 fun ps=>zvq h
   all_goals exact zd
theorem z4u (op:Op) (tm:List (Nat×SV)):Ret (fun k=>xg Γ op tm k):=by
  have hk: ∀v:SV,Ret (fun k:SV→Prop=>k v):=fun v=>z1q v
  cases op
  case move x=>exact zaj (G:=fun v k=>k v) hk
  case assign x=>exact zaj (G:=fun v k=>k v) hk
  case pick c x y=>
    refine zaj (G:=fun cv K=>_) fun cv=>zaj (G:=fun av K=>_) fun av=>zaj (G:=fun bv K=>_) fun bv=>?_
    cases cv<;>first|exact zd|exact z1k (hk _) (hk _)
  case build t ps=>exact znn fun g=>z0z hk
  case nilCheck x=>
    refine zaj (G:=fun v K=>_) fun v=>?_
    cases v<;>first|exact zd|exact hk _
  case binOp op t x y t'=>exact zaj fun a=>zaj fun b=>z31 hk
  case unOp op t x=>exact zaj fun a=>yaa hk
  case slice t x lo hi mx=>exact zaj fun v=>zjk fun lo=>zjk fun hi=>zjk fun mx=>z13 hk
  case field s x f=>
    refine yi (G:=fun ti K=>_) fun ti=>?_
    obtain ⟨d,sz,bytes,zero,eqOk⟩:=ti
    cases d
    case struct fs=>
      refine zjp (G:=fun ft K=>_) fun ft=>yi (G:=fun fi K=>_) fun fi=>zaj (G:=fun v K=>_) fun v=>?_
      try dsimp only
      generalize v.many=m
      cases m
      ·exact zd
      ·exact zei fun ps=>zl5 hk
    all_goals exact zd
  case indexAddr t x i=>
    refine yi (G:=fun ti K=>_) fun ti=>zaj (G:=fun v K=>_) fun v=>zaj (G:=fun iv K=>_) fun iv=>zly (G:=fun ix K=>_) fun ix=>?_
    obtain ⟨d,sz,bytes,zero,eqOk⟩:=ti
    cases d
    case arr n e=>
      refine yi (G:=fun ei K=>_) fun ei=>?_
      cases v<;>first|exact zd|exact yl (hk _)
    case sl e=>
      refine yi (G:=fun ei K=>_) fun ei=>?_
      cases v<;>first|exact zd|exact yl (hk _)
    all_goals exact zd
  case index t x i=>
    refine yi (G:=fun ti K=>_) fun ti=>zaj (G:=fun v K=>_) fun v=>zaj (G:=fun iv K=>_) fun iv=>zly (G:=fun ix K=>_) fun ix=>?_
    obtain ⟨d,sz,bytes,zero,eqOk⟩:=ti
    cases v
    case str l=>cases d<;>first|exact zd|exact yl (hk _)
    all_goals (cases d<;>first|exact zd|exact yi fun ei=>zd|exact yi fun ei=>yl (zkf hk))
  case makeFunc fn first caps=>
    refine zz4 (G:=fun vs K=>_) fun vs=>?_
    cases fn
    case func f=>
      dsimp only
      generalize first.toList=fl
      cases fl<;>first|exact zd|exact hk _
    all_goals exact zd
  case extract x i=>
    refine zaj (G:=fun v K=>_) fun v=>?_
    cases v<;>first|exact zd|exact zjp hk
  case convert s d x=>
    refine yi (G:=fun si K=>_) fun si=>yi (G:=fun di K=>_) fun di=>?_
    obtain ⟨d,sz,bytes,zero,eqOk⟩:=di
    cases d<;>first|exact zd|exact zaj fun v=>zue hk
  case call c=>
    obtain ⟨callee,args,argTypes⟩:=c
    refine zz4 (G:=fun vs K=>_) fun vs=>?_
    dsimp only
    cases callee
    case builtin b=>
      cases b
      case len=>
        dsimp only
        generalize argTypes.toList=ats
        match ats with
        | []=>exact zd
        | [t]=>
          refine yi (G:=fun ti K=>_) fun ti=>?_
          obtain ⟨d,sz,bytes,zero,eqOk⟩:=ti
          dsimp only
          cases d
          case str=>
            match vs with
            | []=>exact zd
            | [v]=>cases v<;>first|exact zd|exact hk _
            |v ::u ::r=>cases v<;>exact zd
          case sl e=>
            match vs with
            | []=>exact zd
            | [v]=>cases v<;>first|exact zd|exact hk _
            |v ::u ::r=>cases v<;>exact zd
          case arr n e=>
            match vs with
            | []=>exact zd
            | [v]=>exact hk _
            |v ::u ::r=>exact zd
          all_goals exact zd
        |_ ::_ ::_=>exact zd
      case min=>
        match vs with
        | []=>exact zd
        | [v]=>cases v<;>exact zd
        | [v,u]=>cases v<;>first|exact zd|(cases u<;>first|exact zd|exact hk _)
        | [v,u,x]=>cases v<;>first|exact zd|(cases u<;>first|exact zd|(cases x<;>first|exact zd|exact hk _))
        |v ::u ::x ::y ::r=>cases v<;>first|exact zd|(cases u<;>first|exact zd|(cases x<;>exact zd))
      case max=>
        match vs with
        | []=>exact zd
        | [v]=>cases v<;>exact zd
        | [v,u]=>cases v<;>first|exact zd|(cases u<;>first|exact zd|exact hk _)
        | [v,u,x]=>cases v<;>first|exact zd|(cases u<;>first|exact zd|(cases x<;>first|exact zd|exact hk _))
        |v ::u ::x ::y ::r=>cases v<;>first|exact zd|(cases u<;>first|exact zd|(cases x<;>exact zd))
      all_goals exact zd
    all_goals exact zd
  all_goals exact zd
theorem zut (op:Op) (tm:List (Nat×SV)) (hp:List Blk):Ret (fun k=>zdv Γ op tm hp k):=by
  have hk: ∀v:SV,Ret (fun k:SV→Prop=>k v):=fun v=>z1q v
  cases op
  case load t x=>
    refine yi (G:=fun ti K=>_) fun ti=>zaj (G:=fun v K=>_) fun v=>?_
    cases v<;>first|exact zd|exact zk1 fun _ ps=>zkf hk|exact z4r
  case fieldAddr s x f=>
    refine yi (G:=fun ti K=>_) fun ti=>?_
    obtain ⟨d,sz,bytes,zero,eqOk⟩:=ti
    cases d
    case struct fs=>
      refine zjp (G:=fun ft K=>_) fun ft=>yi (G:=fun fi K=>_) fun fi=>?_
      obtain ⟨d,sz,bytes,zero,eqOk⟩:=fi
      obtain ⟨c,t⟩:=ft
      cases sz
      ·exact zd
      ·refine zaj (G:=fun v K=>_) fun v=>?_
       cases v
       case xptr A=>exact hk _
       case ptr k j b oo=>
         cases c
         ·exact hk _
         ·cases oo
          ·exact zk1 fun _ ps=>zhm fun _ r=>zkk (G:=fun j' b' o' (K:SV→Prop)=>K (SV.ptr k j' b' o')) fun _ _ _=>hk _
          ·exact hk _
       all_goals exact zd
    all_goals exact zd
  case convert s d x=>
    refine yi (G:=fun si K=>_) fun si=>yi (G:=fun di K=>_) fun di=>?_
    obtain ⟨ds,szs,bytess,zeros,eqOks⟩:=si
    obtain ⟨d,sz,bytes,zero,eqOk⟩:=di
    cases d
    case str=>
      refine zaj (G:=fun v K=>_) fun v=>?_
      cases v
      case str l=>exact hk _
      case nilsl=>
        cases ds
        case sl e=>
          refine yi (G:=fun ei K=>_) fun ei=>?_
          obtain ⟨d,sz,bytes,zero,eqOk⟩:=ei
          cases d
          case int kd=>cases kd<;>first|exact zd|exact hk _
          all_goals exact zd
        all_goals exact zd
      case sl k j b o n c=>
        cases ds
        case sl e=>
          refine yi (G:=fun ei K=>_) fun ei=>?_
          obtain ⟨d,sz,bytes,zero,eqOk⟩:=ei
          cases d
          case int kd=>cases kd<;>first|exact zd|exact z19 (G:=fun l (K:SV→Prop)=>K (SV.str l)) fun l=>hk _
          all_goals exact zd
        all_goals exact zd
      all_goals exact zd
    all_goals exact zd
  all_goals exact zd
theorem z1d (op:Op) (tm:List (Nat×SV)) (m:Nat):Ret (fun k:SV×Blk→Prop=>zb0 Γ op tm m fun v b=>k (v,b)):=by
  have hk: ∀v b,Ret (fun k:SV×Blk→Prop=>k (v,b)):=fun v b=>z1q (v,b)
  cases op
  case alloc t=>exact yi fun ti=>zei fun ps=>hk _ _
  case box t x=>exact zaj fun v=>zei fun ps=>hk _ _
  case buildSlice t n ps=>
    refine znn (G:=fun g K=>_) fun g=>yi (G:=fun ti K=>_) fun ti=>?_
    obtain ⟨d,sz,bytes,zero,eqOk⟩:=ti
    cases d<;>first|exact zd|exact yi fun ei=>yl (zvm fun zs=>zj7 fun ps=>hk _ _)
  case makeSlice t x y=>
    refine zaj (G:=fun lv K=>_) fun lv=>zaj (G:=fun cv K=>_) fun cv=>zly (G:=fun l K=>_) fun l=>zly (G:=fun c K=>_) fun c=>yi (G:=fun ti K=>_) fun ti=>?_
    obtain ⟨d,sz,bytes,zero,eqOk⟩:=ti
    cases d<;>first|exact zd|exact yi fun ei=>yl (zvm fun zs=>hk _ _)
  all_goals exact zd
end
end Go.Sym

namespace Go.Sym
structure PStep where
  i:Nat
  loose:List Nat
inductive LateK where
  |pure|read (M:List Nat)|maker (b:Nat)
structure Late where
  i:Nat
  o:Oper
  v:SV
  k:LateK
def zng (v u:SV) (p:Prop):Prop:=v=u∧p
attribute [irreducible] zng
theorem zc {v:SV} {p:Prop} (h:p):zng v v p:=by unfold zng;exact ⟨rfl,h⟩
theorem zm1 {v u:SV} {p:Prop} (h:zng v u p):v=u∧p:=by unfold zng at h;exact h
def zbo (L:List Nat):List Late→(List Nat→Prop)→Prop
  | [],k=>k []
  |x ::xs,k=>match x.k with
   | .maker b=>match za3 L x.i with|true=>zbo L xs fun M=>k (b ::M)|false=>zbo L xs k
   |_=>zbo L xs k
def zj9:List Nat→List Blk→(List Blk→Prop)→Prop
  | [],hp,k=>k hp
  |m ::M,hp,k=>zij hp m .dead fun hp'=>zj9 M hp' k
def zer (hp:List Blk):List Nat→List Blk→(List Blk→Prop)→Prop
  | [],hp',k=>k hp'
  |m ::M,hp',k=>zdt hp m fun b=>zij hp' m b fun hp''=>zer hp M hp'' k
def zrd (M:List Nat):List Nat→Bool
  | []=>true
  |x ::xs=>match za3 M x with|true=>false|false=>zrd M xs
def zdo (M:List Nat) (v:SV) (p:Prop):Prop:=
  match M with
  | []=>p
  |_ ::_=>match zrd M v.ks with|true=>p|false=>False
def zc5 (M:List Nat):List Blk→Prop→Prop
  | [],p=>p
  |b ::bs,p=>match M with
   | []=>p
   |_ ::_=>match b with
    | .dead=>zc5 M bs p
    | .mk _ ps=>match zrd M (ksL ps) with|true=>zc5 M bs p|false=>False
def reK (Γ:Ctx) (tm:List (Nat×SV)) (hp:List Blk) (L:List Nat):List Late→Prop→Prop
  | [],p=>p
  |x ::xs,p=>match x.k with
   | .read M=>match za3 L x.i with
     |true=>zj9 M hp fun hm=>zdv Γ x.o.op tm hm fun v=>zng v x.v (reK Γ tm hp L xs p)
     |false=>reK Γ tm hp L xs p
   |_=>reK Γ tm hp L xs p
def addM (b:Nat):List Late→List Late
  | []=> []
  |x ::xs=>(match x.k with| .read M=>⟨x.i,x.o,x.v,.read (b ::M)⟩|_=>x) ::addM b xs
def zj1 (all:List Oper) (o:Oper) (tm:List (Nat×SV)) (yes no:Prop):Prop:=
  match o.guard with
  |none=>yes
  |some (j,want)=>zdt all j fun g=>match g.dst with
   |some d=>ye tm d fun v=>match v with
    | .bool t=>yg (t==want) yes no
    | .tup _=>no
    |_=>False
   |none=>False
noncomputable def zdp (Γ:Ctx) (all:List Oper) (steps:List PStep):List Late→List (Nat×SV)→List Blk→(St→Prop)→Prop:=
  List.rec (motive:=fun _=>List Late→List (Nat×SV)→List Blk→(St→Prop)→Prop) (fun _ tm hp K=>K ⟨tm,hp⟩) (fun s _ ih late tm hp K=>zdt all s.i fun o=>zj1 all o tm
    (match za6 Γ o.op with
      | .pure=>xg Γ o.op tm fun v=>zbo s.loose late fun M=>zdo M v (zcw Γ.nt tm hp o.dst v fun st=>match st with|⟨tm',hp'⟩=>ih (⟨s.i,o,v,.pure⟩ ::late) tm' hp' K)
      | .read=>zbo s.loose late fun M=>zj9 M hp fun hm=>zdv Γ o.op tm hm fun v=>zdo M v (zcw Γ.nt tm hp o.dst v fun st=>match st with|⟨tm',hp'⟩=>ih (⟨s.i,o,v,.read M⟩ ::late) tm' hp' K)
      | .maker=>zbo s.loose late fun M=>zio hp fun n=>zb0 Γ o.op tm n fun v b=>match b with
        | .mk el ps=>zdo M (.agg ps) (zex hp (.mk el ps) fun hp1=>zcw Γ.nt tm hp1 o.dst v fun st=>match st with|⟨tm',hp'⟩=>ih (⟨s.i,o,v,.maker n⟩ ::addM n late) tm' hp' K)
        | .dead=>False
      | .anchor=>zbo s.loose late fun M=>zj9 M hp fun hm=>zbm Γ o.op tm hm
          (fun v hp1=>zdo M v (zc5 M hp1 (zer hp M hp1 fun hp2=>zcw Γ.nt tm hp2 o.dst v fun st=>match st with|⟨tm',hp'⟩=>reK Γ tm' hp' s.loose late (ih late tm' hp' K))))
          (fun hp1=>zc5 M hp1 (zer hp M hp1 fun hp2=>match o.dst with
            |none=>reK Γ tm hp2 s.loose late (ih late tm hp2 K)
            |some _=>False)))
    (zcw Γ.nt tm hp o.dst (.tup []) fun st=>match st with|⟨tm',hp'⟩=>ih (⟨s.i,o,.tup [],.pure⟩ ::late) tm' hp' K)) steps
theorem zwe (Γ:Ctx) (all:List Oper) (s:PStep) (ss:List PStep) (late:List Late) (tm:List (Nat×SV)) (hp:List Blk) (K:St→Prop):zdp Γ all (s ::ss) late tm hp K=zdt all s.i fun o=>zj1 all o tm
    (match za6 Γ o.op with
      | .pure=>xg Γ o.op tm fun v=>zbo s.loose late fun M=>zdo M v (zcw Γ.nt tm hp o.dst v fun st=>match st with|⟨tm',hp'⟩=>zdp Γ all ss (⟨s.i,o,v,.pure⟩ ::late) tm' hp' K)
      | .read=>zbo s.loose late fun M=>zj9 M hp fun hm=>zdv Γ o.op tm hm fun v=>zdo M v (zcw Γ.nt tm hp o.dst v fun st=>match st with|⟨tm',hp'⟩=>zdp Γ all ss (⟨s.i,o,v,.read M⟩ ::late) tm' hp' K)
      | .maker=>zbo s.loose late fun M=>zio hp fun n=>zb0 Γ o.op tm n fun v b=>match b with
        | .mk el ps=>zdo M (.agg ps) (zex hp (.mk el ps) fun hp1=>zcw Γ.nt tm hp1 o.dst v fun st=>match st with|⟨tm',hp'⟩=>zdp Γ all ss (⟨s.i,o,v,.maker n⟩ ::addM n late) tm' hp' K)
        | .dead=>False
      | .anchor=>zbo s.loose late fun M=>zj9 M hp fun hm=>zbm Γ o.op tm hm
          (fun v hp1=>zdo M v (zc5 M hp1 (zer hp M hp1 fun hp2=>zcw Γ.nt tm hp2 o.dst v fun st=>match st with|⟨tm',hp'⟩=>reK Γ tm' hp' s.loose late (zdp Γ all ss late tm' hp' K))))
          (fun hp1=>zc5 M hp1 (zer hp M hp1 fun hp2=>match o.dst with
            |none=>reK Γ tm hp2 s.loose late (zdp Γ all ss late tm hp2 K)
            |some _=>False)))
    (zcw Γ.nt tm hp o.dst (.tup []) fun st=>match st with|⟨tm',hp'⟩=>zdp Γ all ss (⟨s.i,o,.tup [],.pure⟩ ::late) tm' hp' K):=rfl
def xh (o:Oper):List Nat:=(o.after.toList.filter (Region.binds .any)).map (·.on)
abbrev Table:=List (Nat×Nat)
def zn2 (T:Table) (i:Nat):Nat:=
  match T with
  | []=>0
  |(j,m) ::r=>if Nat.beq j i then m else zn2 r i
def zdn (T:Table):List Nat→Nat
  | []=>0
  |e ::es=>(Nat.lor (Nat.lor (Nat.shiftLeft 1 e) (zn2 T e)) (zdn T es))
def zqh (ops:Array Oper) (s:PStep) (o:Oper) (m:Nat):List PStep→Bool
  | []=>true
  |x ::xs=>(match za3 s.loose x.i with
     |true=>match ops[x.i]? with|some y=>y.apart ops o|none=>false
     |false=>Nat.testBit m x.i)&&zqh ops s o m xs
def zj2 (ops:Array Oper) (Γ:Ctx) (L:List Nat):List PStep→List (Option Nat)→Bool
  | [],_=>true
  |x ::xs,ds=>(match ops[x.i]? with
     |some y=>(match za6 Γ y.op,za3 L x.i with
      | .read,true=>(y.dst ::ds).all fun d=>match d with|some d=>!(y.looksAt ops).contains d|none=>true
      |_,_=>true)&&zj2 ops Γ L xs (y.dst ::ds)
     |none=>false)
def zo1 (i:Nat):List PStep→Bool
  | []=>false
  |x ::xs=>Nat.beq x.i i||zo1 i xs
def zdm (ops:Array Oper) (Γ:Ctx):List PStep→List PStep→Table→Bool
  |_,[],_=>true
  |pre,s ::ss,T=>match ops[s.i]? with
   |none=>false
   |some o=>
    let m:=zdn T (xh o)
    !zo1 s.i pre&&(xh o).all (fun e=>zo1 e pre)&&zqh ops s o m pre&&
    (match za6 Γ o.op with
      | .anchor=>ss.all (fun t=>match ops[t.i]? with|some u=>(xh u).any fun e=>!zo1 e pre|none=>false)&&zj2 ops Γ s.loose pre [o.dst]
      |_=>true)&&zdm ops Γ (s ::pre) ss ((s.i,m) ::T)
def zjx (ops:Array Oper) (Γ:Ctx) (steps:List PStep):Bool:=
  Region.noSelect ops&&(List.range ops.size).all (fun i=>zo1 i steps)&&zdm ops Γ [] steps []
end Go.Sym
