/-
  Contracts of functions of the program, each said of symbolic values, and plain laws; no condition beyond each statement's own.
-/
import Derived.Test.YtmmpgjcpielefaaGreatGLStreamActs7
set_option linter.unusedSimpArgs false
set_option linter.unusedVariables false
namespace Go.Sym
def Ret {α:Type} (F:(α→Prop)→Prop):Prop:= ∀k,F k→ ∃x,k x∧ ∀k':α→Prop,k' x→F k'
theorem z54 {α:Type} (x:α):Ret (fun k=>k x):=fun _ h=>⟨x,h,fun _ h=>h⟩
theorem ze {α:Type}:Ret (fun _:α→Prop=>False):=fun _ h=>h.elim
theorem yy {α:Type} {p:Prop} {F:(α→Prop)→Prop} (h:Ret F):Ret (fun k=>Pre p (F k)):=fun k hk=>by
  obtain ⟨h1,h2⟩:=zq hk
  obtain ⟨x,h3,h4⟩:=h k h2
  exact ⟨x,h3,fun k' h=>zr h1 (h4 k' h)⟩
theorem ycf {R:SV→Prop}:Ret (fun k:SV→Prop=>zn9 R k):=fun k hk=>by
  obtain ⟨v,h1,h2⟩:=ydf hk
  exact ⟨v,h2,fun k' h=>zmh v h1 h⟩
theorem z5o {α:Type} {t:Bool} {F G:(α→Prop)→Prop} (h:Ret F) (h':Ret G):Ret (fun k=>ye t (F k) (G k)):=fun k hk=>by
  obtain ⟨h1,h2⟩:=z8 hk
  cases t with
  |true=>
   obtain ⟨x,h3,h4⟩:=h k (h1 rfl)
   exact ⟨x,h3,fun k' h=>zj rfl (h4 k' h)⟩
  |false=>
   obtain ⟨x,h3,h4⟩:=h' k (h2 rfl)
   exact ⟨x,h3,fun k' h=>zk rfl (h4 k' h)⟩
section
variable {β:Type}
theorem zl1 {α:Type} {a b:List α} {G:List α→(β→Prop)→Prop} (h: ∀l,Ret (G l)):Ret (fun k=>zei a b fun l=>G l k):=by
  induction a generalizing G with
  |nil=>exact h _
  |cons y ys ih=>exact ih (G:=fun l=>G (y ::l)) fun l=>h _
theorem ygt {α:Type} {l:List α} {i:Nat} {x:α} {G:List α→(β→Prop)→Prop} (h: ∀l,Ret (G l)):Ret (fun k=>zjm l i x fun l=>G l k):=by
  induction l generalizing G i with
  |nil=>exact ze
  |cons y ys ih=>
   cases i with
   |zero=>exact h _
   |succ i=>exact ih (G:=fun l=>G (y ::l)) fun l=>h _
theorem zk3 {α:Type} {l:List α} {i:Nat} {G:α→(β→Prop)→Prop} (h: ∀x,Ret (G x)):Ret (fun k=>zfe l i fun x=>G x k):=by
  induction l generalizing i with
  |nil=>exact ze
  |cons y ys ih=>
   cases i with
   |zero=>exact h _
   |succ i=>exact ih
theorem yq {α:Type} {l:List (Nat×α)} {n:Nat} {G:α→(β→Prop)→Prop} (h: ∀x,Ret (G x)):Ret (fun k=>yn l n fun x=>G x k):=by
  induction l with
  |nil=>exact ze
  |cons p r ih=>
   obtain ⟨i,v⟩:=p
   simp only [yn]
   generalize Nat.beq i n=t
   cases t
   ·exact ih
   ·exact h _
theorem z6q {v:Value} {G:SV→(β→Prop)→Prop} (h: ∀x,Ret (G x)):Ret (fun k=>znx v fun x=>G x k):=by
  intro k hk
  unfold znx at hk ⊢
  split at hk
  case h_12=>exact hk.elim
  all_goals (try split at hk)
  all_goals first
    |exact hk.elim
    |exact h _ k hk
    |(rename_i e;simp only [e];exact h _ k hk)
theorem za3 {tm:List (Nat×SV)} {x:Operand} {G:SV→(β→Prop)→Prop} (h: ∀x,Ret (G x)):Ret (fun k=>evK tm x fun x=>G x k):=by
  cases x with
  |tmp t=>exact yq h
  |const v=>exact z6q h
  |func f=>exact h _
  |global g=>exact ze
theorem z7w {tm:List (Nat×SV)} {xs:List Operand} {G:List SV→(β→Prop)→Prop} (h: ∀x,Ret (G x)):Ret (fun k=>z34 tm xs fun x=>G x k):=by
  induction xs generalizing G with
  |nil=>exact h _
  |cons x xs ih=>exact za3 fun v=>ih (G:=fun vs=>G (v ::vs)) fun vs=>h _
theorem zrx {tm:List (Nat×SV)} {xs:List (Nat×Operand)} {G:List (Nat×SV)→(β→Prop)→Prop} (h: ∀x,Ret (G x)):Ret (fun k=>zkt tm xs fun x=>G x k):=by
  induction xs generalizing G with
  |nil=>exact h _
  |cons x xs ih=>
   obtain ⟨i,x⟩:=x
   exact za3 fun v=>ih (G:=fun vs=>G ((i,v) ::vs)) fun vs=>h _
theorem zoq {v:SV} {G:Nat→(β→Prop)→Prop} (h: ∀x,Ret (G x)):Ret (fun k=>zvl v fun x=>G x k):=by
  cases v<;>first|exact ze|exact h _|exact yy (h _)
theorem zuc {v:SV} {G:Nat→(β→Prop)→Prop} (h: ∀x,Ret (G x)):Ret (fun k=>z8w v fun x=>G x k):=by
  cases v<;>first|exact ze|exact h _|exact yy (h _)
theorem zk4 {tm:List (Nat×SV)} {x:Option Operand} {G:Option Nat→(β→Prop)→Prop} (h: ∀x,Ret (G x)):Ret (fun k=>zhk tm x fun x=>G x k):=by
  cases x with
  |none=>exact h _
  |some x=>exact za3 fun v=>zoq (G:=fun n=>G (some n)) fun n=>h _
theorem zj0 {ps:List SV} {j b:Nat} {G:List SV→List SV→(β→Prop)→Prop} (h: ∀a r,Ret (G a r)):Ret (fun k=>zce ps j b fun a r=>G a r k):=by
  induction ps generalizing j b G with
  |nil=>
   cases j with
   |zero=>
    simp only [zce]
    generalize Nat.beq b 0=t
    cases t
    ·exact ze
    ·exact h _ _
   |succ j=>exact ze
  |cons p ps ih=>
   cases j with
   |zero=>
    simp only [zce]
    generalize Nat.beq b 0=t
    cases t
    ·exact ze
    ·exact h _ _
   |succ j=>
    simp only [zce]
    generalize Nat.ble p.size b=t
    cases t
    ·exact ze
    ·exact ih (G:=fun a r=>G (p ::a) r) fun a r=>h _ _
theorem z1v {ps:List SV} {n:Nat} {G:List SV→List SV→(β→Prop)→Prop} (h: ∀a r,Ret (G a r)):Ret (fun k=>zg5 ps n fun a r=>G a r k):=by
  induction ps generalizing n G with
  |nil=>
   cases n with
   |zero=>exact h _ _
   |succ n=>exact ze
  |cons p ps ih=>
   cases n with
   |zero=>exact h _ _
   |succ n=>
    simp only [zg5]
    generalize Nat.ble p.size (n+1)=t
    cases t
    ·exact ze
    ·exact ih (G:=fun a r=>G (p ::a) r) fun a r=>h _ _
theorem z0d {ps:List SV} {G:SV→(β→Prop)→Prop} (h: ∀v,Ret (G v)):Ret (fun k=>zjq ps fun v=>G v k):=by
  match ps with
  | []=>exact h _
  | [p]=>
    simp only [zjq]
    generalize p.isRow=t
    cases t
    ·exact h _
    ·exact h _
  |p ::q ::r=>exact h _
theorem zm1 {ps:List SV} {j b c:Nat} {G:Nat→Nat→List (Nat×Nat)→(β→Prop)→Prop} (h: ∀a b c,Ret (G a b c)):Ret (fun k=>zg8 ps j b c fun x y z=>G x y z k):=by
  induction ps generalizing j b c with
  |nil=>
   cases c with
   |zero=>exact h _ _ _
   |succ c=>exact ze
  |cons p ps ih=>
   cases c with
   |zero=>exact h _ _ _
   |succ c=>
    simp only [zg8]
    generalize Nat.ble p.size (c+1)=t
    cases t
    ·generalize p.isRow=t
     cases t
     ·exact ze
     ·exact h _ _ _
    ·exact ih
theorem yfd:
    (∀v:SV,∀(G:List SV→(β→Prop)→Prop),(∀l,Ret (G l))→Ret (fun k=>zcr v fun l=>G l k))∧
    (∀vs:List SV,∀(G:List SV→(β→Prop)→Prop),(∀l,Ret (G l))→Ret (fun k=>zfw vs fun l=>G l k)):=by
  have one: ∀v:SV,∀(G:List SV→(β→Prop)→Prop),(∀l,Ret (G l))→Ret (fun k=>zcr v fun l=>G l k):=fun v=>by
    refine SV.rec (motive_1:=fun v=> ∀(G:List SV→(β→Prop)→Prop),(∀l,Ret (G l))→Ret (fun k=>zcr v fun l=>G l k))
      (motive_2:=fun vs=> ∀(G:List SV→(β→Prop)→Prop),(∀l,Ret (G l))→Ret (fun k=>zfw vs fun l=>G l k))
      ?_ ?_ ?_ ?_ ?_ ?_ ?_ ?_ ?_ ?_ ?_ ?_ ?_ ?_ ?_ ?_ ?_ ?_ ?_ ?_ ?_ ?_ ?_ ?_ ?_ ?_ ?_ v
    case refine_22=>intro ps ih G h;exact ih G h
    case refine_26=>intro G h;exact h _
    case refine_27=>
      intro v vs ihv ihs G h
      exact ihv (fun a k=>zfw vs fun b=>zei a b fun l=>G l k) fun a=>ihs (fun b k=>zei a b fun l=>G l k) fun b=>zl1 h
    all_goals (intros;rename_i h;exact h _)
  refine ⟨one,fun vs=>?_⟩
  induction vs with
  |nil=>intro G h;exact h _
  |cons v vs ih=>
   intro G h
   exact one v (fun a k=>zfw vs fun b=>zei a b fun l=>G l k) fun a=>ih (fun b k=>zei a b fun l=>G l k) fun b=>zl1 h
theorem zf4 {v:SV} {G:List SV→(β→Prop)→Prop} (h: ∀l,Ret (G l)):Ret (fun k=>zcr v fun l=>G l k):=yfd.1 v G h
theorem zs3 {o:List (Nat×Nat)} {es:Nat} {G:Nat→Nat→(β→Prop)→Prop} (h: ∀i c,Ret (G i c)):Ret (fun k=>zlp o es fun i c=>G i c k):=by
  match o with
  | []=>exact h _ _
  | [(i,e)]=>
    simp only [zlp]
    generalize Nat.beq e es=t
    cases t
    ·exact ze
    ·exact h _ _
  | [(i,e),(c,1)]=>
    simp only [zlp]
    generalize Nat.beq e es=t
    cases t
    ·exact ze
    ·exact h _ _
  | [(i,e),(c,0)]=>exact ze
  | [(i,e),(c,n+2)]=>exact ze
  |x ::(c,n) ::z ::r=>simp only [zlp];exact ze
theorem ydm {a:At} {G:SV→(β→Prop)→Prop} (h: ∀v,Ret (G v)):Ret (fun k=>atK a fun v=>G v k):=by
  cases a<;>exact h _
theorem yfe {as:List At} {G:List SV→(β→Prop)→Prop} (h: ∀v,Ret (G v)):Ret (fun k=>yal as fun v=>G v k):=by
  induction as generalizing G with
  |nil=>exact h _
  |cons a as ih=>exact ydm fun v=>ih (G:=fun vs=>G (v ::vs)) fun vs=>h _
theorem yc9 {α:Type} {l:List α} {n:Nat} {G:List α→(β→Prop)→Prop} (h: ∀v,Ret (G v)):Ret (fun k=>z0n l n fun v=>G v k):=by
  induction l generalizing n with
  |nil=>
   cases n with
   |zero=>exact h _
   |succ n=>exact ze
  |cons x xs ih=>
   cases n with
   |zero=>exact h _
   |succ n=>exact ih
theorem z8d {α:Type} {l:List α} {n:Nat} {G:List α→(β→Prop)→Prop} (h: ∀v,Ret (G v)):Ret (fun k=>zur l n fun v=>G v k):=by
  induction l generalizing n G with
  |nil=>
   cases n with
   |zero=>exact h _
   |succ n=>exact ze
  |cons x xs ih=>
   cases n with
   |zero=>exact h _
   |succ n=>exact ih (G:=fun l=>G (x ::l)) fun l=>h _
theorem ybl {p:SV} {o:List (Nat×Nat)} {G:SV→(β→Prop)→Prop} (h: ∀v,Ret (G v)):Ret (fun k=>zpt p o fun v=>G v k):=by
  cases p
  case tab n es f=>dsimp only [zpt];exact zs3 fun i c=>yy (zk3 fun a=>ydm h)
  all_goals first
    |exact ze
    |exact yy (h _)
    |(cases o<;>first|exact h _|exact ze)
theorem ye5 {p:SV} {o:List (Nat×Nat)} {m:Nat} {G:SV→(β→Prop)→Prop} (h: ∀v,Ret (G v)):Ret (fun k=>zwk p o m fun v=>G v k):=by
  cases p
  case tab n es f=>dsimp only [zwk];exact zs3 fun i c=>yy (yc9 fun r=>z8d fun as=>yfe (G:=fun vs=>G (.agg vs)) fun vs=>h _)
  all_goals first
    |exact ze
    |exact yy (h _)
theorem zm9 {ti:TyI} {ps:List SV} {j b:Nat} {o:List (Nat×Nat)} {G:SV→(β→Prop)→Prop} (h: ∀v,Ret (G v)):Ret (fun k=>zn1 ti ps j b o fun v=>G v k):=by
  obtain ⟨d,sz,bytes,zero,eqOk⟩:=ti
  refine zj0 (G:=fun _ r k=>match (generalizing:=false) d with
    | .arr .. | .struct .. =>match (generalizing:=false) o with
      | []=>zg5 r sz fun a _=>zjq a fun v=>G v k
      |_=>match (generalizing:=false) r with|p ::_=>zwk p o sz fun v=>G v k| []=>False
    |_=>match (generalizing:=false) r with|p ::_=>zpt p o (fun v=>G v k)| []=>False) fun a r=>?_
  have s:Ret (fun k=>match (generalizing:=false) r with|p ::_=>zpt p o (fun v=>G v k)| []=>False):=by
    cases r
    ·exact ze
    ·exact ybl h
  have t:Ret (fun k=>match (generalizing:=false) o with
   | []=>zg5 r sz fun a _=>zjq a fun v=>G v k
   |_=>match (generalizing:=false) r with|p ::_=>zwk p o sz fun v=>G v k| []=>False):=by
    cases o with
    |nil=>exact z1v fun a _=>z0d h
    |cons x o=>
     cases r
     ·exact ze
     ·exact ye5 h
  cases d<;>first|exact s|exact t
theorem ycr {vs:List SV} {G:List UInt64→(β→Prop)→Prop} (h: ∀v,Ret (G v)):Ret (fun k=>zvi vs fun v=>G v k):=by
  induction vs generalizing G with
  |nil=>exact h _
  |cons v vs ih=>cases v<;>first|exact ze|exact ih (G:=fun l=>G (_ ::l)) fun l=>h _
theorem z0u {v:SV} {G:At→(β→Prop)→Prop} (h: ∀v,Ret (G v)):Ret (fun k=>zq4 v fun v=>G v k):=by
  cases v<;>first|exact ze|exact h _
theorem zv0 {vs:List SV} {G:List At→(β→Prop)→Prop} (h: ∀v,Ret (G v)):Ret (fun k=>zls vs fun v=>G v k):=by
  induction vs generalizing G with
  |nil=>exact h _
  |cons v vs ih=>exact z0u fun a=>ih (G:=fun as=>G (a ::as)) fun l=>h _
theorem zvt {p:SV} {o:List (Nat×Nat)} {v:SV} {G:SV→(β→Prop)→Prop} (h: ∀v,Ret (G v)):Ret (fun k=>zfo p o v fun v=>G v k):=by
  have plain:Ret (fun k=>match (generalizing:=false) o with
    | []=>match (generalizing:=false) v.scalar with|true=>G v k|false=>False
    |_=>False):=by
    cases o with
    |nil=>
     generalize v.scalar=t
     cases t
     ·exact ze
     ·exact h _
    |cons x o=>exact ze
  cases p
  case tab n es f=>
    have one:Ret (fun k=>zq4 v fun a=>zlp o es fun i c=>Pre (i<n) (zjm (f i) c a fun r=>G (.tab n es (zhc f i r)) k)):=
      z0u fun a=>zs3 fun i c=>yy (ygt (G:=fun r=>G (.tab n es (zhc f i r))) fun r=>h _)
    cases v
    case agg vs=>
      refine zv0 (G:=fun as k=>zlp o es fun i c=>match (generalizing:=false) c with
        |0=>Pre (i<n∧as.length=es) (G (.tab n es (zhc f i as)) k)
        |_=>False) fun as=>zs3 (G:=fun i c k=>match (generalizing:=false) c with
        |0=>Pre (i<n∧as.length=es) (G (.tab n es (zhc f i as)) k)
        |_=>False) fun i c=>?_
      cases c
      ·exact yy (h _)
      ·exact ze
    all_goals exact one
  case arr8 n l=>cases v<;>first|exact ze|exact yy (h _)
  case arr32 n l=>cases v<;>first|exact ze|exact yy (h _)
  case arr64 n l=>cases v<;>first|exact ze|exact yy (h _)|exact ycr fun x=>yy (h _)
  case arri n l=>cases v<;>first|exact ze|exact yy (h _)
  case arrs n l=>cases v<;>first|exact ze|exact yy (h _)
  case agg ps=>exact ze
  case tup ps=>exact ze
  all_goals (cases o<;>first|exact ze|(dsimp only [zfo];exact plain))
theorem znz {ti:TyI} {ps:List SV} {j b:Nat} {o:List (Nat×Nat)} {v:SV} {G:List SV→(β→Prop)→Prop} (h: ∀v,Ret (G v)):Ret (fun k=>zfv ti ps j b o v fun v=>G v k):=by
  unfold zfv
  refine zj0 (G:=fun a r k=>match (generalizing:=false) o with
    | []=>match (generalizing:=false) v.many with
      |true=>zg5 r ti.sz fun _ r'=>zcr v fun fs=>match (generalizing:=false) Nat.beq (yc fs) ti.sz with|true=>(match (generalizing:=false) zin fs with|true=>zei fs r' fun q=>zei a q fun v=>G v k|false=>False)|false=>False
      |false=>match (generalizing:=false) Nat.beq ti.sz 1 with
       |true=>match (generalizing:=false) r with|p ::r'=>zfo p [] v fun p'=>zei a (p' ::r') fun v=>G v k| []=>False
       |false=>False
    |_=>match (generalizing:=false) Nat.beq v.size ti.sz with
     |true=>match (generalizing:=false) r with|p ::r'=>zfo p o v fun p'=>zei a (p' ::r') fun v=>G v k| []=>False
     |false=>False) fun a r=>?_
  cases o with
  |nil=>
   generalize v.many=t
   cases t
   ·generalize Nat.beq ti.sz 1=t
    cases t
    ·exact ze
    ·cases r with
     |nil=>exact ze
     |cons p r'=>exact zvt fun p'=>zl1 h
   ·refine z1v fun _ r'=>zf4 (G:=fun fs k=>match (generalizing:=false) Nat.beq (yc fs) ti.sz with|true=>(match (generalizing:=false) zin fs with|true=>zei fs r' fun q=>zei a q fun v=>G v k|false=>False)|false=>False) fun fs=>?_
    generalize Nat.beq (yc fs) ti.sz=t
    cases t
    ·exact ze
    ·generalize zin fs=t
     cases t
     ·exact ze
     ·exact zl1 fun q=>zl1 h
  |cons x o=>
   dsimp only
   generalize Nat.beq v.size ti.sz=t
   cases t
   ·exact ze
   ·cases r with
    |nil=>exact ze
    |cons p r'=>exact zvt fun p'=>zl1 h
theorem ye1 {op:BinOp} {a b:Int} {G:SV→(β→Prop)→Prop} (h: ∀v,Ret (G v)):Ret (fun k=>yai op a b fun v=>G v k):=by
  cases op<;>first|exact ze|exact h _|exact yy (h _)
theorem yj5 {op:BinOp} {a b:UInt8} {G:SV→(β→Prop)→Prop} (h: ∀v,Ret (G v)):Ret (fun k=>u8K op a b fun v=>G v k):=by
  cases op<;>first|exact ze|exact h _|exact yy (h _)
theorem yey {op:BinOp} {a b:UInt16} {G:SV→(β→Prop)→Prop} (h: ∀v,Ret (G v)):Ret (fun k=>ybp op a b fun v=>G v k):=by
  cases op<;>first|exact ze|exact h _|exact yy (h _)
theorem yfq {op:BinOp} {a b:UInt32} {G:SV→(β→Prop)→Prop} (h: ∀v,Ret (G v)):Ret (fun k=>ydb op a b fun v=>G v k):=by
  cases op<;>first|exact ze|exact h _|exact yy (h _)
theorem ygq {op:BinOp} {a b:UInt64} {G:SV→(β→Prop)→Prop} (h: ∀v,Ret (G v)):Ret (fun k=>ya0 op a b fun v=>G v k):=by
  cases op<;>first|exact ze|exact h _|exact yy (h _)
theorem yf5 {op:BinOp} {a b:List UInt8} {G:SV→(β→Prop)→Prop} (h: ∀v,Ret (G v)):Ret (fun k=>yaa op a b fun v=>G v k):=by
  cases op<;>first|exact ze|exact h _|exact yy (h _)
theorem ygc {x y:SV} {G:SV→(β→Prop)→Prop} (h: ∀v,Ret (G v)):Ret (fun k=>yb6 x y fun v=>G v k):=by
  cases x<;>first
    |exact zuc fun n=>yy (h _)
    |exact zuc fun n=>ze
theorem yeg {x y:SV} {G:SV→(β→Prop)→Prop} (h: ∀v,Ret (G v)):Ret (fun k=>yck x y fun v=>G v k):=by
  cases x<;>first
    |exact zuc fun n=>yy (h _)
    |exact zuc fun n=>ze
theorem ydw {op:BinOp} {x y:SV} {G:SV→(β→Prop)→Prop} (h: ∀v,Ret (G v)):Ret (fun k=>z20 op x y fun v=>G v k):=by
  cases op
  case shl=>exact ygc h
  case shr=>exact yeg h
  all_goals
    cases x<;>first
      |exact ze
      |(cases y<;>dsimp only [z20]<;>first|exact ze|exact ye1 h|exact yj5 h|exact yey h|exact yfq h|exact ygq h|exact yf5 h)
theorem yj2 {op:UnOp} {x:SV} {G:SV→(β→Prop)→Prop} (h: ∀v,Ret (G v)):Ret (fun k=>unK op x fun v=>G v k):=by
  cases op<;>cases x<;>first|exact ze|exact h _|exact yy (h _)
theorem zyw {d:IntKind} {x:SV} {G:SV→(β→Prop)→Prop} (h: ∀v,Ret (G v)):Ret (fun k=>zhi d x fun v=>G v k):=by
  cases d<;>cases x<;>first|exact ze|exact h _|exact yy (h _)
end
end Go.Sym

namespace Go.Sym
section
variable {β:Type} {Γ:Ctx}
theorem zpw {hp:List Blk} {n:Nat} {G:TypeId→List SV→(β→Prop)→Prop} (h: ∀a b,Ret (G a b)):Ret (fun k=>zee hp n fun a b=>G a b k):=by
  refine zk3 (G:=fun (b:Blk) k=>match (generalizing:=false) b with| .mk el ps=>G el ps k| .dead=>False) fun b=>?_
  cases b
  ·exact h _ _
  ·exact ze
theorem yfm {hp:List Blk} {n j b:Nat} {G:SV→(β→Prop)→Prop} (h: ∀v,Ret (G v)):Ret (fun k=>z6g hp n j b fun v=>G v k):=by
  refine zpw fun _ ps=>zj0 (G:=fun _ r k=>match (generalizing:=false) r with|p ::_=>G p k| []=>False) fun _ r=>?_
  cases r
  ·exact ze
  ·exact h _
theorem z6f {hp:List Blk} {v:SV} {G:List UInt8→(β→Prop)→Prop} (h: ∀v,Ret (G v)):Ret (fun k=>zi7 hp v fun v=>G v k):=by
  cases v
  case sl k j b o n c=>
    refine yfm (G:=fun p k=>match (generalizing:=false) p with
      | .arr8 _ l=>Pre (off o+n≤l.length) (G ((l.drop (off o)).take n) k)
      |_=>False) fun p=>?_
    cases p<;>first|exact ze|exact yy (h _)
  all_goals first|exact ze|exact h _
theorem znp {fi:TyI} {ps:List SV} {c:Nat} {G:SV→(β→Prop)→Prop} (h: ∀v,Ret (G v)):Ret (fun k=>zg3 fi ps c fun v=>G v k):=by
  cases c with
  |zero=>dsimp only [zg3];exact zm9 h
  |succ c=>dsimp only [zg3];exact zm1 fun j b o=>zm9 h
theorem yml (f:Nat):(∀(t:TypeId) (x y:SV) (G:Bool→(β→Prop)→Prop),(∀v,Ret (G v))→Ret (fun k=>eqK Γ f t x y fun v=>G v k))∧
    (∀(fs:List (Nat×TypeId)) (xs ys:List SV) (G:Bool→(β→Prop)→Prop),(∀v,Ret (G v))→Ret (fun k=>zng Γ f fs xs ys fun v=>G v k)):=by
  induction f with
  |zero=>exact ⟨fun t x y G h=>by simp only [eqK];exact ze,fun fs xs ys G h=>by simp only [zng];exact ze⟩
  |succ f ih=>
   refine ⟨fun t x y G h=>?_,fun fs xs ys G h=>?_⟩
   ·intro k hk
    simp only [eqK] at hk ⊢
    revert k
    refine yq (G:=fun ti k=>_) fun ti=>?_
    obtain ⟨d,sz,bytes,zero,eqOk⟩:=ti
    dsimp only
    cases d
    case int kd=>cases kd<;>first|exact ze|(cases x<;>first|exact ze|(cases y<;>first|exact ze|exact h _))
    case arr n e=>
      refine yq (G:=fun ei k=>_) fun ei=>?_
      obtain ⟨d,sz,bytes,zero,eqOk⟩:=ei
      dsimp only
      cases d
      case int kd=>
        cases kd<;>first
          |exact ze
          |(cases x<;>first
             |exact ze
             |(cases y<;>first
                |exact ze
                |(rename_i m a m' b
                  dsimp only
                  generalize Nat.beq m n=t
                  generalize Nat.beq m' n=t'
                  cases t
                  ·exact ze
                  ·cases t'
                   ·exact ze
                   ·exact h _)))
      all_goals exact ze
    case struct fs=>
      cases eqOk
      ·exact ze
      ·dsimp only
       generalize x.many=t
       generalize y.many=t'
       cases t
       ·exact ze
       ·cases t'
        ·exact ze
        ·exact zf4 fun xs=>zf4 fun ys=>ih.2 _ _ _ _ h
    all_goals first|exact ze|(cases x<;>first|exact ze|(cases y<;>first|exact ze|exact h _))
   ·cases fs with
    |nil=>simp only [zng];exact h _
    |cons p fs=>
     obtain ⟨c,t⟩:=p
     simp only [zng]
     exact yq fun ti=>znp fun a=>znp fun b=>ih.1 _ _ _ (fun r k=>zng Γ f fs xs ys fun r'=>G (r&&r') k) fun r=>ih.2 _ _ _ (fun r' k=>G (r&&r') k) fun r'=>h _
theorem ydi {f:Nat} {t:TypeId} {x y:SV} {G:Bool→(β→Prop)→Prop} (h: ∀v,Ret (G v)):Ret (fun k=>eqK Γ f t x y fun v=>G v k):=(yml f).1 t x y G h
theorem yac {op:BinOp} {t:TypeId} {x y:SV} {G:SV→(β→Prop)→Prop} (h: ∀v,Ret (G v)):Ret (fun k=>z0b Γ op t x y fun v=>G v k):=by
  have go: ∀(g:Bool→SV),Ret (fun k=>match (generalizing:=false) x.many with
   |true=>yn Γ.ty t fun ti=>match (generalizing:=false) ti.eqOk with|true=>eqK Γ 60 t x y (fun r=>G (g r) k)|false=>False
   |false=>eqK Γ 60 t x y (fun r=>G (g r) k)):=fun g=>by
    generalize x.many=m
    cases m
    ·exact ydi (G:=fun r=>G (g r)) fun r=>h _
    ·refine yq (G:=fun (ti:TyI) k=>match (generalizing:=false) ti.eqOk with|true=>eqK Γ 60 t x y (fun r=>G (g r) k)|false=>False) fun ti=>?_
     generalize ti.eqOk=q
     cases q
     ·exact ze
     ·exact ydi (G:=fun r=>G (g r)) fun r=>h _
  have big:Ret (fun k=>match (generalizing:=false) op with
    | .eql=>match (generalizing:=false) x.many with
      |true=>yn Γ.ty t fun ti=>match (generalizing:=false) ti.eqOk with|true=>eqK Γ 60 t x y (fun r=>G (.bool r) k)|false=>False
      |false=>eqK Γ 60 t x y (fun r=>G (.bool r) k)
    | .neq=>match (generalizing:=false) x.many with
      |true=>yn Γ.ty t fun ti=>match (generalizing:=false) ti.eqOk with|true=>eqK Γ 60 t x y (fun r=>G (.bool (!r)) k)|false=>False
      |false=>eqK Γ 60 t x y (fun r=>G (.bool (!r)) k)
    |_=>False):=by
    cases op<;>first|exact ze|exact go (fun r=> .bool r)|exact go (fun r=> .bool (!r))
  cases x<;>first|exact ydw h|exact big
theorem z4a {l:List UInt8} {lo hi:Option Nat} {G:SV→(β→Prop)→Prop} (h: ∀v,Ret (G v)):Ret (fun k=>zyv l lo hi fun v=>G v k):=by
  cases lo<;>cases hi<;>first|exact h _|exact yy (h _)
theorem zwt {k j b:Nat} {o:List (Nat×Nat)} {n c es:Nat} {lo hi mx:Option Nat} {G:SV→(β→Prop)→Prop} (h: ∀v,Ret (G v)):Ret (fun K=>zos k j b o n c es lo hi mx fun v=>G v K):=by
  cases lo<;>cases hi<;>cases mx<;>first|exact ze|exact h _|exact yy (h _)|exact yy (yy (h _))
theorem z7r {t:TypeId} {x:SV} {lo hi mx:Option Nat} {G:SV→(β→Prop)→Prop} (h: ∀v,Ret (G v)):Ret (fun K=>ztn Γ t x lo hi mx fun v=>G v K):=by
  cases x
  case str l=>
    refine yq (G:=fun ti K=>_) fun ti=>?_
    obtain ⟨d,sz,bytes,zero,eqOk⟩:=ti
    cases d<;>first|exact ze|(cases mx<;>first|exact ze|exact z4a h)
  case nilsl=>
    refine yq (G:=fun ti K=>_) fun ti=>?_
    obtain ⟨d,sz,bytes,zero,eqOk⟩:=ti
    cases d<;>first|exact ze|(refine yq (G:=fun ti K=>_) fun ti=>?_;cases hi<;>cases mx<;>first|exact ze|exact yy (h _))
  case sl k j b o n c=>
    refine yq (G:=fun ti K=>_) fun ti=>?_
    obtain ⟨d,sz,bytes,zero,eqOk⟩:=ti
    cases d<;>first|exact ze|exact yq fun ei=>zwt h
  case ptr k j b o=>
    refine yq (G:=fun ti K=>_) fun ti=>?_
    obtain ⟨d,sz,bytes,zero,eqOk⟩:=ti
    cases d<;>first|exact ze|exact yq fun ei=>zwt h
  all_goals exact ze
theorem yet {z:SV} {n:Nat} {G:List SV→(β→Prop)→Prop} (h: ∀v,Ret (G v)):Ret (fun K=>zzp z n fun v=>G v K):=by
  induction n generalizing G with
  |zero=>exact h _
  |succ n ih=>exact ih (G:=fun l=>G (z ::l)) fun l=>h _
theorem z1h {z:SV} {n:Nat} {G:List SV→(β→Prop)→Prop} (h: ∀v,Ret (G v)):Ret (fun K=>zw2 z n fun v=>G v K):=by
  cases z
  case arr8 m l=>cases l<;>first|exact ze|exact yy (h _)
  case agg ps=>
    refine zv0 (G:=fun as K=>match (generalizing:=false) as with| []=>False|a ::r=>G [.tab n (r.length+1) fun _=>a ::r] K) fun as=>?_
    cases as
    ·exact ze
    ·exact h _
  all_goals first|exact ze|exact h _|exact yet h
theorem zxl {ei:TyI} {ps:List SV} {i:Nat} {v:SV} {G:List SV→(β→Prop)→Prop} (h: ∀v,Ret (G v)):Ret (fun K=>zhd ei ps i v fun v=>G v K):=by
  have w:Ret (fun K=>zg8 ps 0 0 (i*ei.sz) fun j b o=>zfv ei ps j b o v fun v=>G v K):=zm1 fun j b o=>znz h
  match ps,w with
  | [],w=>exact w
  | [p],w=>
    dsimp only [zhd]
    generalize p.isRow=t
    cases t
    ·exact w
    ·exact znz h
  |p ::q ::r,w=>exact w
theorem zl9 {ei:TyI} {ps:List SV} {g:List (Nat×SV)} {G:List SV→(β→Prop)→Prop} (h: ∀v,Ret (G v)):Ret (fun K=>zez ei ps g fun v=>G v K):=by
  induction g generalizing ps with
  |nil=>exact h _
  |cons p r ih=>obtain ⟨i,v⟩:=p;exact zxl fun ps'=>ih
theorem zta {fs:List (Nat×TypeId)} {ps:List SV} {g:List (Nat×SV)} {G:List SV→(β→Prop)→Prop} (h: ∀v,Ret (G v)):Ret (fun K=>zed Γ fs ps g fun v=>G v K):=by
  induction g generalizing ps with
  |nil=>exact h _
  |cons p r ih=>obtain ⟨i,v⟩:=p;exact zk3 fun ft=>yq fun fi=>zm1 fun j b o=>znz fun ps'=>ih
theorem z7t {fs:List (Nat×TypeId)} {F:(β→Prop)→Prop} (h:Ret F):Ret (fun K=>znu Γ fs (F K)):=by
  induction fs with
  |nil=>exact h
  |cons p r ih=>obtain ⟨i,v⟩:=p;exact yq fun _=>ih
theorem z90 {t:TypeId} {g:List (Nat×SV)} {G:SV→(β→Prop)→Prop} (h: ∀v,Ret (G v)):Ret (fun K=>zts Γ t g fun v=>G v K):=by
  refine yq (G:=fun ti K=>_) fun ti=>?_
  obtain ⟨d,sz,bytes,zero,eqOk⟩:=ti
  dsimp only
  generalize zero.many=m
  cases m
  ·exact ze
  ·refine zf4 (G:=fun zs K=>_) fun zs=>?_
   cases d
   case struct fs=>exact z7t (zta (G:=fun ps=>G (.agg ps)) fun ps=>h _)
   case arr n e=>exact yq fun ei=>zl9 fun ps=>z0d h
   all_goals exact ze
theorem ych (op:Op) (tm:List (Nat×SV)):Ret (fun k=>x2 Γ op tm k):=by
  have hk: ∀v:SV,Ret (fun k:SV→Prop=>k v):=fun v=>z54 v
  cases op
  case move x=>exact za3 (G:=fun v k=>k v) hk
  case assign x=>exact za3 (G:=fun v k=>k v) hk
  case pick c x y=>
    refine za3 (G:=fun cv K=>_) fun cv=>za3 (G:=fun av K=>_) fun av=>za3 (G:=fun bv K=>_) fun bv=>?_
    cases cv<;>first|exact ze|exact z5o (hk _) (hk _)
  case build t ps=>exact zrx fun g=>z90 hk
  case nilCheck x=>
    refine za3 (G:=fun v K=>_) fun v=>?_
    cases v<;>first|exact ze|exact hk _
  case binOp op t x y t'=>exact za3 fun a=>za3 fun b=>yac hk
  case unOp op t x=>exact za3 fun a=>yj2 hk
  case slice t x lo hi mx=>exact za3 fun v=>zk4 fun lo=>zk4 fun hi=>zk4 fun mx=>z7r hk
  case field s x f=>
    refine yq (G:=fun ti K=>_) fun ti=>?_
    obtain ⟨d,sz,bytes,zero,eqOk⟩:=ti
    cases d
    case struct fs=>
      refine zk3 (G:=fun ft K=>_) fun ft=>yq (G:=fun fi K=>_) fun fi=>za3 (G:=fun v K=>_) fun v=>?_
      try dsimp only
      generalize v.many=m
      cases m
      ·exact ze
      ·exact zf4 fun ps=>znp hk
    all_goals exact ze
  case indexAddr t x i=>
    refine yq (G:=fun ti K=>_) fun ti=>za3 (G:=fun v K=>_) fun v=>za3 (G:=fun iv K=>_) fun iv=>zoq (G:=fun ix K=>_) fun ix=>?_
    obtain ⟨d,sz,bytes,zero,eqOk⟩:=ti
    cases d
    case arr n e=>
      refine yq (G:=fun ei K=>_) fun ei=>?_
      cases v<;>first|exact ze|exact yy (hk _)
    case sl e=>
      refine yq (G:=fun ei K=>_) fun ei=>?_
      cases v<;>first|exact ze|exact yy (hk _)
    all_goals exact ze
  case index t x i=>
    refine yq (G:=fun ti K=>_) fun ti=>za3 (G:=fun v K=>_) fun v=>za3 (G:=fun iv K=>_) fun iv=>zoq (G:=fun ix K=>_) fun ix=>?_
    obtain ⟨d,sz,bytes,zero,eqOk⟩:=ti
    cases v
    case str l=>cases d<;>first|exact ze|exact yy (hk _)
    all_goals (cases d<;>first|exact ze|exact yq fun ei=>ze|exact yq fun ei=>yy (zm9 hk))
  case makeFunc fn first caps=>
    refine z7w (G:=fun vs K=>_) fun vs=>?_
    cases fn
    case func f=>
      dsimp only
      generalize first.toList=fl
      cases fl<;>first|exact ze|exact hk _
    all_goals exact ze
  case extract x i=>
    refine za3 (G:=fun v K=>_) fun v=>?_
    cases v<;>first|exact ze|exact zk3 hk
  case convert s d x=>
    refine yq (G:=fun si K=>_) fun si=>yq (G:=fun di K=>_) fun di=>?_
    obtain ⟨d,sz,bytes,zero,eqOk⟩:=di
    cases d<;>first|exact ze|exact za3 fun v=>zyw hk
  case call c=>
    obtain ⟨callee,args,argTypes⟩:=c
    refine z7w (G:=fun vs K=>_) fun vs=>?_
    dsimp only
    cases callee
    case builtin b=>
      cases b
      case len=>
        dsimp only
        generalize argTypes.toList=ats
        match ats with
        | []=>exact ze
        | [t]=>
          refine yq (G:=fun ti K=>_) fun ti=>?_
          obtain ⟨d,sz,bytes,zero,eqOk⟩:=ti
          dsimp only
          cases d
          case str=>
            match vs with
            | []=>exact ze
            | [v]=>cases v<;>first|exact ze|exact hk _
            |v ::u ::r=>cases v<;>exact ze
          case sl e=>
            match vs with
            | []=>exact ze
            | [v]=>cases v<;>first|exact ze|exact hk _
            |v ::u ::r=>cases v<;>exact ze
          case arr n e=>
            match vs with
            | []=>exact ze
            | [v]=>exact hk _
            |v ::u ::r=>exact ze
          all_goals exact ze
        |_ ::_ ::_=>exact ze
      case min=>
        match vs with
        | []=>exact ze
        | [v]=>cases v<;>exact ze
        | [v,u]=>cases v<;>first|exact ze|(cases u<;>first|exact ze|exact hk _)
        | [v,u,x]=>cases v<;>first|exact ze|(cases u<;>first|exact ze|(cases x<;>first|exact ze|exact hk _))
        |v ::u ::x ::y ::r=>cases v<;>first|exact ze|(cases u<;>first|exact ze|(cases x<;>exact ze))
      case max=>
        match vs with
        | []=>exact ze
        | [v]=>cases v<;>exact ze
        | [v,u]=>cases v<;>first|exact ze|(cases u<;>first|exact ze|exact hk _)
        | [v,u,x]=>cases v<;>first|exact ze|(cases u<;>first|exact ze|(cases x<;>first|exact ze|exact hk _))
        |v ::u ::x ::y ::r=>cases v<;>first|exact ze|(cases u<;>first|exact ze|(cases x<;>exact ze))
      all_goals exact ze
    all_goals exact ze
  all_goals exact ze
theorem zz0 (op:Op) (tm:List (Nat×SV)) (hp:List Blk):Ret (fun k=>ze6 Γ op tm hp k):=by
  have hk: ∀v:SV,Ret (fun k:SV→Prop=>k v):=fun v=>z54 v
  cases op
  case load t x=>
    refine yq (G:=fun ti K=>_) fun ti=>za3 (G:=fun v K=>_) fun v=>?_
    cases v<;>first|exact ze|exact zpw fun _ ps=>zm9 hk|exact ycf
  case fieldAddr s x f=>
    refine yq (G:=fun ti K=>_) fun ti=>?_
    obtain ⟨d,sz,bytes,zero,eqOk⟩:=ti
    cases d
    case struct fs=>
      refine zk3 (G:=fun ft K=>_) fun ft=>yq (G:=fun fi K=>_) fun fi=>?_
      obtain ⟨d,sz,bytes,zero,eqOk⟩:=fi
      obtain ⟨c,t⟩:=ft
      cases sz
      ·exact ze
      ·refine za3 (G:=fun v K=>_) fun v=>?_
       cases v
       case xptr A=>exact hk _
       case ptr k j b oo=>
         cases c
         ·exact hk _
         ·cases oo
          ·exact zpw fun _ ps=>zj0 fun _ r=>zm1 (G:=fun j' b' o' (K:SV→Prop)=>K (SV.ptr k j' b' o')) fun _ _ _=>hk _
          ·exact hk _
       all_goals exact ze
    all_goals exact ze
  case convert s d x=>
    refine yq (G:=fun si K=>_) fun si=>yq (G:=fun di K=>_) fun di=>?_
    obtain ⟨ds,szs,bytess,zeros,eqOks⟩:=si
    obtain ⟨d,sz,bytes,zero,eqOk⟩:=di
    cases d
    case str=>
      refine za3 (G:=fun v K=>_) fun v=>?_
      cases v
      case str l=>exact hk _
      case nilsl=>
        cases ds
        case sl e=>
          refine yq (G:=fun ei K=>_) fun ei=>?_
          obtain ⟨d,sz,bytes,zero,eqOk⟩:=ei
          cases d
          case int kd=>cases kd<;>first|exact ze|exact hk _
          all_goals exact ze
        all_goals exact ze
      case sl k j b o n c=>
        cases ds
        case sl e=>
          refine yq (G:=fun ei K=>_) fun ei=>?_
          obtain ⟨d,sz,bytes,zero,eqOk⟩:=ei
          cases d
          case int kd=>cases kd<;>first|exact ze|exact z6f (G:=fun l (K:SV→Prop)=>K (SV.str l)) fun l=>hk _
          all_goals exact ze
        all_goals exact ze
      all_goals exact ze
    all_goals exact ze
  all_goals exact ze
theorem z4z (op:Op) (tm:List (Nat×SV)) (m:Nat):Ret (fun k:SV×Blk→Prop=>zcx Γ op tm m fun v b=>k (v,b)):=by
  have hk: ∀v b,Ret (fun k:SV×Blk→Prop=>k (v,b)):=fun v b=>z54 (v,b)
  cases op
  case alloc t=>exact yq fun ti=>zf4 fun ps=>hk _ _
  case box t x=>exact za3 fun v=>zf4 fun ps=>hk _ _
  case buildSlice t n ps=>
    refine zrx (G:=fun g K=>_) fun g=>yq (G:=fun ti K=>_) fun ti=>?_
    obtain ⟨d,sz,bytes,zero,eqOk⟩:=ti
    cases d<;>first|exact ze|exact yq fun ei=>yy (z1h fun zs=>zl9 fun ps=>hk _ _)
  case makeSlice t x y=>
    refine za3 (G:=fun lv K=>_) fun lv=>za3 (G:=fun cv K=>_) fun cv=>zoq (G:=fun l K=>_) fun l=>zoq (G:=fun c K=>_) fun c=>yq (G:=fun ti K=>_) fun ti=>?_
    obtain ⟨d,sz,bytes,zero,eqOk⟩:=ti
    cases d<;>first|exact ze|exact yq fun ei=>yy (z1h fun zs=>hk _ _)
  all_goals exact ze
end
end Go.Sym

namespace Go.Sym
structure PStep where
  i:Nat
  loose:List Nat
inductive LateK where
  |pure|read (M:List Nat)|maker (b:Nat)
structure Late where
  i:Nat
  o:Oper
  v:SV
  k:LateK
def zqv (v u:SV) (p:Prop):Prop:=v=u∧p
attribute [irreducible] zqv
theorem zb {v:SV} {p:Prop} (h:p):zqv v v p:=by unfold zqv;exact ⟨rfl,h⟩
theorem znf {v u:SV} {p:Prop} (h:zqv v u p):v=u∧p:=by unfold zqv at h;exact h
def zcg (L:List Nat):List Late→(List Nat→Prop)→Prop
  | [],k=>k []
  |x ::xs,k=>match x.k with
   | .maker b=>match zbv L x.i with|true=>zcg L xs fun M=>k (b ::M)|false=>zcg L xs k
   |_=>zcg L xs k
def zl6:List Nat→List Blk→(List Blk→Prop)→Prop
  | [],hp,k=>k hp
  |m ::M,hp,k=>zjm hp m .dead fun hp'=>zl6 M hp' k
def zgi (hp:List Blk):List Nat→List Blk→(List Blk→Prop)→Prop
  | [],hp',k=>k hp'
  |m ::M,hp',k=>zfe hp m fun b=>zjm hp' m b fun hp''=>zgi hp M hp'' k
def zwz (M:List Nat):List Nat→Bool
  | []=>true
  |x ::xs=>match zbv M x with|true=>false|false=>zwz M xs
def zfd (M:List Nat) (v:SV) (p:Prop):Prop:=
  match M with
  | []=>p
  |_ ::_=>match zwz M v.ks with|true=>p|false=>False
def zec (M:List Nat):List Blk→Prop→Prop
  | [],p=>p
  |b ::bs,p=>match M with
   | []=>p
   |_ ::_=>match b with
    | .dead=>zec M bs p
    | .mk _ ps=>match zwz M (ksL ps) with|true=>zec M bs p|false=>False
def reK (Γ:Ctx) (tm:List (Nat×SV)) (hp:List Blk) (L:List Nat):List Late→Prop→Prop
  | [],p=>p
  |x ::xs,p=>match x.k with
   | .read M=>match zbv L x.i with
     |true=>zl6 M hp fun hm=>ze6 Γ x.o.op tm hm fun v=>zqv v x.v (reK Γ tm hp L xs p)
     |false=>reK Γ tm hp L xs p
   |_=>reK Γ tm hp L xs p
def addM (b:Nat):List Late→List Late
  | []=> []
  |x ::xs=>(match x.k with| .read M=>⟨x.i,x.o,x.v,.read (b ::M)⟩|_=>x) ::addM b xs
def zll (all:List Oper) (o:Oper) (tm:List (Nat×SV)) (yes no:Prop):Prop:=
  match o.guard with
  |none=>yes
  |some (j,want)=>zfe all j fun g=>match g.dst with
   |some d=>yn tm d fun v=>match v with
    | .bool t=>ye (t==want) yes no
    | .tup _=>no
    |_=>False
   |none=>False
noncomputable def zfg (Γ:Ctx) (all:List Oper) (steps:List PStep):List Late→List (Nat×SV)→List Blk→(St→Prop)→Prop:=
  List.rec (motive:=fun _=>List Late→List (Nat×SV)→List Blk→(St→Prop)→Prop) (fun _ tm hp K=>K ⟨tm,hp⟩) (fun s _ ih late tm hp K=>zfe all s.i fun o=>zll all o tm
    (match zbx Γ o.op with
      | .pure=>x2 Γ o.op tm fun v=>zcg s.loose late fun M=>zfd M v (zd0 Γ.nt tm hp o.dst v fun st=>match st with|⟨tm',hp'⟩=>ih (⟨s.i,o,v,.pure⟩ ::late) tm' hp' K)
      | .read=>zcg s.loose late fun M=>zl6 M hp fun hm=>ze6 Γ o.op tm hm fun v=>zfd M v (zd0 Γ.nt tm hp o.dst v fun st=>match st with|⟨tm',hp'⟩=>ih (⟨s.i,o,v,.read M⟩ ::late) tm' hp' K)
      | .maker=>zcg s.loose late fun M=>zkf hp fun n=>zcx Γ o.op tm n fun v b=>match b with
        | .mk el ps=>zfd M (.agg ps) (zgk hp (.mk el ps) fun hp1=>zd0 Γ.nt tm hp1 o.dst v fun st=>match st with|⟨tm',hp'⟩=>ih (⟨s.i,o,v,.maker n⟩ ::addM n late) tm' hp' K)
        | .dead=>False
      | .anchor=>zcg s.loose late fun M=>zl6 M hp fun hm=>zcm Γ o.op tm hm
          (fun v hp1=>zfd M v (zec M hp1 (zgi hp M hp1 fun hp2=>zd0 Γ.nt tm hp2 o.dst v fun st=>match st with|⟨tm',hp'⟩=>reK Γ tm' hp' s.loose late (ih late tm' hp' K))))
          (fun hp1=>zec M hp1 (zgi hp M hp1 fun hp2=>match o.dst with
            |none=>reK Γ tm hp2 s.loose late (ih late tm hp2 K)
            |some _=>False)))
    (zd0 Γ.nt tm hp o.dst (.tup []) fun st=>match st with|⟨tm',hp'⟩=>ih (⟨s.i,o,.tup [],.pure⟩ ::late) tm' hp' K)) steps
theorem z3w (Γ:Ctx) (all:List Oper) (s:PStep) (ss:List PStep) (late:List Late) (tm:List (Nat×SV)) (hp:List Blk) (K:St→Prop):zfg Γ all (s ::ss) late tm hp K=zfe all s.i fun o=>zll all o tm
    (match zbx Γ o.op with
      | .pure=>x2 Γ o.op tm fun v=>zcg s.loose late fun M=>zfd M v (zd0 Γ.nt tm hp o.dst v fun st=>match st with|⟨tm',hp'⟩=>zfg Γ all ss (⟨s.i,o,v,.pure⟩ ::late) tm' hp' K)
      | .read=>zcg s.loose late fun M=>zl6 M hp fun hm=>ze6 Γ o.op tm hm fun v=>zfd M v (zd0 Γ.nt tm hp o.dst v fun st=>match st with|⟨tm',hp'⟩=>zfg Γ all ss (⟨s.i,o,v,.read M⟩ ::late) tm' hp' K)
      | .maker=>zcg s.loose late fun M=>zkf hp fun n=>zcx Γ o.op tm n fun v b=>match b with
        | .mk el ps=>zfd M (.agg ps) (zgk hp (.mk el ps) fun hp1=>zd0 Γ.nt tm hp1 o.dst v fun st=>match st with|⟨tm',hp'⟩=>zfg Γ all ss (⟨s.i,o,v,.maker n⟩ ::addM n late) tm' hp' K)
        | .dead=>False
      | .anchor=>zcg s.loose late fun M=>zl6 M hp fun hm=>zcm Γ o.op tm hm
          (fun v hp1=>zfd M v (zec M hp1 (zgi hp M hp1 fun hp2=>zd0 Γ.nt tm hp2 o.dst v fun st=>match st with|⟨tm',hp'⟩=>reK Γ tm' hp' s.loose late (zfg Γ all ss late tm' hp' K))))
          (fun hp1=>zec M hp1 (zgi hp M hp1 fun hp2=>match o.dst with
            |none=>reK Γ tm hp2 s.loose late (zfg Γ all ss late tm hp2 K)
            |some _=>False)))
    (zd0 Γ.nt tm hp o.dst (.tup []) fun st=>match st with|⟨tm',hp'⟩=>zfg Γ all ss (⟨s.i,o,.tup [],.pure⟩ ::late) tm' hp' K):=rfl
def x5 (o:Oper):List Nat:=(o.after.toList.filter (Region.binds .any)).map (·.on)
abbrev Table:=List (Nat×Nat)
def zri (T:Table) (i:Nat):Nat:=
  match T with
  | []=>0
  |(j,m) ::r=>if Nat.beq j i then m else zri r i
def zfb (T:Table):List Nat→Nat
  | []=>0
  |e ::es=>(Nat.lor (Nat.lor (Nat.shiftLeft 1 e) (zri T e)) (zfb T es))
def zud (ops:Array Oper) (s:PStep) (o:Oper) (m:Nat):List PStep→Bool
  | []=>true
  |x ::xs=>(match zbv s.loose x.i with
     |true=>match ops[x.i]? with|some y=>y.apart ops o|none=>false
     |false=>Nat.testBit m x.i)&&zud ops s o m xs
def zk8 (ops:Array Oper) (Γ:Ctx) (L:List Nat):List PStep→List (Option Nat)→Bool
  | [],_=>true
  |x ::xs,ds=>(match ops[x.i]? with
     |some y=>(match zbx Γ y.op,zbv L x.i with
      | .read,true=>(y.dst ::ds).all fun d=>match d with|some d=>!(y.looksAt ops).contains d|none=>true
      |_,_=>true)&&zk8 ops Γ L xs (y.dst ::ds)
     |none=>false)
def zt8 (i:Nat):List PStep→Bool
  | []=>false
  |x ::xs=>Nat.beq x.i i||zt8 i xs
def ze8 (ops:Array Oper) (Γ:Ctx):List PStep→List PStep→Table→Bool
  |_,[],_=>true
  |pre,s ::ss,T=>match ops[s.i]? with
   |none=>false
   |some o=>
    let m:=zfb T (x5 o)
    !zt8 s.i pre&&(x5 o).all (fun e=>zt8 e pre)&&zud ops s o m pre&&
    (match zbx Γ o.op with
      | .anchor=>ss.all (fun t=>match ops[t.i]? with|some u=>(x5 u).any fun e=>!zt8 e pre|none=>false)&&zk8 ops Γ s.loose pre [o.dst]
      |_=>true)&&ze8 ops Γ (s ::pre) ss ((s.i,m) ::T)
def zk5 (ops:Array Oper) (Γ:Ctx) (steps:List PStep):Bool:=
  Region.noSelect ops&&(List.range ops.size).all (fun i=>zt8 i steps)&&ze8 ops Γ [] steps []
end Go.Sym

namespace Go.Sym
def mask:List Nat→List Blk→List Blk
  | [],hp=>hp
  |m ::M,hp=>mask M (hp.set m .dead)
theorem yh: ∀(M:List Nat) (hp:List Blk),(mask M hp).length=hp.length
  | [],_=>rfl
  |m ::M,hp=>by simp [mask,yh M]
theorem z6o {hp:List Blk} {m k:Nat} {el:TypeId} {ps:List SV}:(hp.set m .dead)[k]?=some (.mk el ps)↔k≠m∧hp[k]?=some (.mk el ps):=by
  constructor
  ·intro h
   by_cases e:m=k
   ·subst e
    rw [List.getElem?_set] at h
    split at h
    ·split at h<;>cases h
    ·rename_i hne;exact absurd rfl hne
   ·rw [List.getElem?_set_ne e] at h;exact ⟨fun x=>e x.symm,h⟩
  ·rintro ⟨h1,h2⟩
   rw [List.getElem?_set_ne (fun e=>h1 e.symm)];exact h2
theorem xc {k:Nat} {el:TypeId} {ps:List SV}: ∀{M:List Nat} {hp:List Blk},(mask M hp)[k]?=some (.mk el ps)↔k∉M∧hp[k]?=some (.mk el ps)
  | [],hp=>by simp [mask]
  |m ::M,hp=>by
   rw [mask,xc,z6o]
   simp only [List.mem_cons,not_or]
   constructor
   ·rintro ⟨h1,h2,h3⟩;exact ⟨⟨h2,h1⟩,h3⟩
   ·rintro ⟨⟨h1,h2⟩,h3⟩;exact ⟨h2,h1,h3⟩
theorem zm3: ∀{M:List Nat} {hp:List Blk} {k:List Blk→Prop},zl6 M hp k→k (mask M hp)
  | [],_,_,h=>h
  |m ::M,hp,k,h=>by
   exact zm3 (M:=M) (zes h).2
def zdl (hp:List Blk):List Nat→List Blk→List Blk
  | [],hp'=>hp'
  |m ::M,hp'=>zdl hp M (match hp[m]? with|some b=>hp'.set m b|none=>hp')
theorem zm7 {hp:List Blk}: ∀{M:List Nat} {hp':List Blk} {k:List Blk→Prop},zgi hp M hp' k→k (zdl hp M hp')∧ ∀m∈M,m<hp.length∧m<hp'.length
  | [],_,_,h=>⟨h,by simp⟩
  |m ::M,hp',k,h=>by
   obtain ⟨b,h1,h2⟩:=zdo h
   obtain ⟨h3,h4⟩:=zes h2
   obtain ⟨h5,h6⟩:=zm7 h4
   refine ⟨by rw [zdl,h1];exact h5,fun x hx=>?_⟩
   rcases List.mem_cons.1 hx with rfl|hx
   ·exact ⟨(List.getElem?_eq_some_iff.1 h1).1,h3⟩
   ·have:=h6 x hx;simpa using this
theorem zid {hp:List Blk}: ∀{M:List Nat} {hp':List Blk},(zdl hp M hp').length=hp'.length
  | [],_=>rfl
  |m ::M,hp'=>by
   rw [zdl,zid]
   split<;>simp
theorem znt {hp:List Blk} {k:Nat}: ∀{M:List Nat} {hp':List Blk},(∀m∈M,m<hp.length∧m<hp'.length)→(zdl hp M hp')[k]?=if k∈M then hp[k]? else hp'[k]?
  | [],_,_=>by simp [zdl]
  |m ::M,hp',h=>by
   obtain ⟨h1,h2⟩:=h m (by simp)
   rw [zdl,List.getElem?_eq_getElem h1]
   dsimp only
   rw [znt (fun x hx=>by have:=h x (by simp [hx]);simpa using this)]
   by_cases hk:k∈M
   ·simp [hk]
   ·by_cases e:k=m
    ·subst e;simp [hk,h2,List.getElem?_eq_getElem h1]
    ·rw [List.getElem?_set_ne (fun x=>e x.symm)];simp [hk,e]
theorem zso {M:List Nat}: ∀{l:List Nat},zwz M l=true→ ∀x∈l,x∉M
  | [],_=>by simp
  |y ::ys,h=>by
   simp only [zwz] at h
   split at h
   ·cases h
   ·rename_i he
    intro x hx
    rcases List.mem_cons.1 hx with rfl|hx
    ·exact fun hm=>by rw [zax.2 hm] at he;cases he
    ·exact zso h x hx
theorem SV.ok_of_ks {p q:Nat→Prop}: ∀v:SV,v.ok p→(∀x∈v.ks,q x)→v.ok q:=by
  intro v
  refine SV.rec (motive_1:=fun v=>v.ok p→(∀x∈v.ks,q x)→v.ok q) (motive_2:=fun vs=>okL p vs→(∀x∈ksL vs,q x)→okL q vs)
    ?_ ?_ ?_ ?_ ?_ ?_ ?_ ?_ ?_ ?_ ?_ ?_ ?_ ?_ ?_ ?_ ?_ ?_ ?_ ?_ ?_ ?_ ?_ ?_ ?_ ?_ ?_ v
  case refine_26=>intro _ _;trivial
  case refine_27=>
    intro v vs ihv ihs h hx
    exact ⟨ihv h.1 (fun x h=>hx x (by simp [ksL,h])),ihs h.2 (fun x h=>hx x (by simp [ksL,h]))⟩
  all_goals first
    |(intros;rename_i h hx;first|exact h|exact hx _ (by simp [SV.ks])|trivial)
    |(intro ps ih h hx;exact ih h (by simpa [SV.ks] using hx))
    |(intro a ps ih h hx;exact ih h (by simpa [SV.ks] using hx))
theorem zxt {p q:Nat→Prop} {vs:List SV} (h:okL p vs) (hx: ∀x∈ksL vs,q x):okL q vs:=by
  have:=SV.ok_of_ks (p:=p) (q:=q) (.agg vs) h (by simpa [SV.ks] using hx)
  exact this
theorem SV.ok_and {p q r:Nat→Prop} (hr: ∀x,p x→q x→r x): ∀v:SV,v.ok p→v.ok q→v.ok r:=by
  intro v
  refine SV.rec (motive_1:=fun v=>v.ok p→v.ok q→v.ok r) (motive_2:=fun vs=>okL p vs→okL q vs→okL r vs)
    ?_ ?_ ?_ ?_ ?_ ?_ ?_ ?_ ?_ ?_ ?_ ?_ ?_ ?_ ?_ ?_ ?_ ?_ ?_ ?_ ?_ ?_ ?_ ?_ ?_ ?_ ?_ v
  case refine_26=>intro _ _;trivial
  case refine_27=>
    intro v vs ihv ihs h h'
    exact ⟨ihv h.1 h'.1,ihs h.2 h'.2⟩
  all_goals first
    |(intros;rename_i h h';first|exact h|exact hr _ h h'|trivial)
    |(intro ps ih h h';exact ih h h')
    |(intro a ps ih h h';exact ih h h')
theorem ydd {p q r:Nat→Prop} (hr: ∀x,p x→q x→r x) {vs:List SV} (h:okL p vs) (h':okL q vs):okL r vs:=SV.ok_and hr (.agg vs) h h'
theorem zmr {q:Nat→Prop} {M:List Nat} {v:SV} {p:Prop} (hv:v.ok q) (h:zfd M v p):v.ok (· ∉M)∧p:=by
  unfold zfd at h
  split at h
  ·exact ⟨SV.ok_mono (fun _ _=>by simp) v hv,h⟩
  ·split at h
   ·rename_i e
    exact ⟨SV.ok_of_ks v hv (zso e),h⟩
   ·exact h.elim
theorem zj9 {M:List Nat} {p:Prop}: ∀{hp:List Blk},zec M hp p→p∧ ∀(k:Nat) (el:TypeId) (ps:List SV) (q:Nat→Prop),hp[k]?=some (.mk el ps)→okL q ps→okL (· ∉M) ps
  | [],h=>⟨h,fun k el ps q hk _=>by simp at hk⟩
  |b ::bs,h=>by
   unfold zec at h
   split at h
   ·exact ⟨h,fun k el ps q hk ho=>yz (fun _ _=>by simp) _ ho⟩
   ·split at h
    ·obtain ⟨h1,h2⟩:=zj9 h
     refine ⟨h1,fun k el ps q hk ho=>?_⟩
     cases k with
     |zero=>simp at hk
     |succ k=>exact h2 k el ps q (by simpa using hk) ho
    ·split at h
     ·rename_i el' qs e
      obtain ⟨h1,h2⟩:=zj9 h
      refine ⟨h1,fun k el ps q hk ho=>?_⟩
      cases k with
      |zero=>simp at hk;obtain ⟨rfl,rfl⟩:=hk;exact zxt ho (zso e)
      |succ k=>exact h2 k el ps q (by simpa using hk) ho
     ·exact h.elim
theorem zh3 {M:List Nat} {p q:Prop}: ∀{hp:List Blk},zec M hp p→(p→q)→zec M hp q
  | [],h,f=>f h
  |b ::bs,h,f=>by
   unfold zec at h ⊢
   split
   ·exact f h
   ·split
    ·exact zh3 h f
    ·rename_i el qs
     dsimp only at h
     split at h
     ·exact zh3 h f
     ·exact h.elim
theorem zlw {hp:List Blk}: ∀{M:List Nat} {hp':List Blk} {k k':List Blk→Prop},zgi hp M hp' k→(∀l,k l→k' l)→zgi hp M hp' k'
  | [],_,_,_,h,f=>f _ h
  |m ::M,hp',k,k',h,f=>by
   have nth: ∀{l:List Blk} {i:Nat} {g g':Blk→Prop},zfe l i g→(∀b,g b→g' b)→zfe l i g':=by
     intro l
     induction l with
     |nil=>intro i g g' h _;exact h
     |cons x xs ih=>
      intro i g g' h hg
      cases i with
      |zero=>exact hg _ h
      |succ i=>exact ih (i:=i) h hg
   have set: ∀{l:List Blk} {i:Nat} {b:Blk} {g g':List Blk→Prop},zjm l i b g→(∀l,g l→g' l)→zjm l i b g':=by
     intro l
     induction l with
     |nil=>intro i b g g' h _;exact h
     |cons x xs ih=>
      intro i b g g' h hg
      cases i with
      |zero=>exact hg _ h
      |succ i=>exact ih (g:=fun l=>g (x ::l)) (g':=fun l=>g' (x ::l)) h (fun l hl=>hg _ hl)
   exact nth (i:=m) h fun b hb=>set hb fun l hl=>zlw (M:=M) hl f
section
variable {ρ:Nat→Nat} {hp:List Blk} {w:World}
theorem HpRel.sub (h:HpRel ρ hp w) {hp':List Blk} (hs: ∀(k:Nat) el ps,hp'[k]?=some (Blk.mk el ps)→hp[k]?=some (.mk el ps)∧okL (· <hp'.length) ps):HpRel ρ hp' w:=
  ⟨fun k el ps hk=>⟨(hs k el ps hk).2,(h.mem k el ps (hs k el ps hk).1).2⟩,fun k k' el ps el' ps' h1 h2 he=>h.inj k k' _ _ _ _ (hs k el ps h1).1 (hs k' el' ps' h2).1 he⟩
theorem HpRel.mask (h:HpRel ρ hp w) (M:List Nat):HpRel ρ (mask M hp) w:=
  h.sub fun k el ps hk=>by
    rw [xc] at hk
    exact ⟨hk.2,by rw [yh];exact (h.mem k el ps hk.2).1⟩
variable {ρ0:Nat→Nat} {hp0:List Blk} {w0:World}
theorem Step.grow (h:Step ρ0 hp0 w0 ρ hp w):Step ρ0 hp0 w0 ρ (hp++ [.dead]) w:=by
  have old: ∀(k:Nat) el ps,(hp++ [Blk.dead])[k]?=some (Blk.mk el ps)→hp[k]?=some (.mk el ps):=fun k el ps hk=>by
    rcases Nat.lt_trichotomy k hp.length with hl|rfl|hl
    ·rwa [List.getElem?_append_left hl] at hk
    ·simp at hk
    ·rw [List.getElem?_eq_none (by simp;omega)] at hk;cases hk
  refine ⟨h.rel.sub fun k el ps hk=>⟨old k el ps hk,?_⟩,h.same,by have:=h.le;simp;omega,h.ext,?_⟩
  ·exact yz (fun x hx=>by simp;omega) _ (h.rel.mem k el ps (old k el ps hk)).1
  ·rintro b ⟨k,el,ps,hk,rfl⟩
   exact h.foot _ ⟨k,el,ps,old k el ps hk,rfl⟩
def upd (ρ:Nat→Nat) (n b:Nat):Nat→Nat:=fun k=>if k=n then b else ρ k
theorem Step.place (h:Step ρ0 hp0 w0 ρ hp w) {b:Nat} (hb:hp0.length≤b) (hbl:b<hp.length) (hd: ∀el ps,hp[b]?≠some (.mk el ps)) {el el0:TypeId} {ps:List SV} (hps:okL (· <hp.length) ps) (hpb:okL (· ≠b) ps)
    (hav: ∀(k:Nat) el ps,hp[k]?=some (Blk.mk el ps)→okL (· ≠b) ps) {hp':List Blk} (hl:hp'.length=hp.length)
    (hg: ∀(k:Nat) el' qs,hp'[k]?=some (Blk.mk el' qs)→k≠b∧hp[k]?=some (.mk el' qs)∨k=b∧el'=el∧qs=ps):
    Step ρ0 hp0 w0 (upd ρ b w.heap.size) hp' (w.alloc (.cells (zw ρ ps).toArray el0)):=by
  have hc: ∀qs:List SV,okL (· ≠b) qs→zw (upd ρ b w.heap.size) qs=zw ρ qs:=fun qs hq=>
    xy (p:=(· ≠b)) (fun k hk=>by simp [upd,hk]) qs hq
  have hne: ∀k,k≠b→upd ρ b w.heap.size k=ρ k:=fun k hk=>by simp [upd,hk]
  have hself:upd ρ b w.heap.size b=w.heap.size:=by simp [upd]
  refine ⟨⟨?_,?_⟩,fun k hk=>by rw [hne k (by omega)];exact h.same k hk,by rw [hl];exact h.le,⟨?_,?_,h.ext.os,h.ext.out,h.ext.tape⟩,?_⟩
  ·intro k el' qs hk
   rw [hl]
   rcases hg k el' qs hk with ⟨hkb,hk'⟩|⟨rfl,rfl,rfl⟩
   ·obtain ⟨h1,el2,fz,h2,h3⟩:=h.rel.mem k el' qs hk'
    refine ⟨h1,el2,fz,?_,?_⟩
    ·rw [hne k hkb,hc _ (hav k el' qs hk')]
     simp only [World.alloc]
     rw [Array.getElem?_push,if_neg (Nat.ne_of_lt (h.rel.lt hk')),h2]
    ·rw [hc _ (hav k el' qs hk')];exact h3
   ·refine ⟨hps,el0,(0,0),?_,.inl (Nat.le_refl _)⟩
    rw [hself,hc _ hpb]
    show (w.heap.push _)[w.heap.size]?=_
    simp
  ·intro k k' el1 ps1 el2 ps2 h1 h2 he
   rcases hg k el1 ps1 h1 with ⟨hk,hk'⟩|⟨rfl,_,_⟩<;>rcases hg k' el2 ps2 h2 with ⟨hj,hj'⟩|⟨rfl,_,_⟩
   ·rw [hne k hk,hne k' hj] at he;exact h.rel.inj k k' _ _ _ _ hk' hj' he
   ·rw [hne k hk,hself] at he;exact absurd he (Nat.ne_of_lt (h.rel.lt hk'))
   ·rw [hne k' hj,hself] at he;exact absurd he.symm (Nat.ne_of_lt (h.rel.lt hj'))
   ·rfl
  ·show w0.heap.size≤(w.heap.push _).size
   rw [Array.size_push];exact Nat.le_succ_of_le h.ext.size
  ·intro x hx hn
   simp only [World.alloc]
   rw [Array.getElem?_push,if_neg (Nat.ne_of_lt (Nat.lt_of_lt_of_le hx h.ext.size))]
   exact h.ext.keep x hx hn
  ·rintro x ⟨k,el',qs,hk,rfl⟩
   rcases hg k el' qs hk with ⟨hkb,hk'⟩|⟨rfl,_,_⟩
   ·rw [hne k hkb];exact h.foot _ ⟨k,el',qs,hk',rfl⟩
   ·rw [hself];exact .inr h.ext.size
theorem Step.through {M D:List Nat} (hD: ∀x∈D,x∈M) (hM: ∀m∈M,m<hp.length) (S:Step ρ0 hp0 w0 ρ (Sym.mask D hp) w) {ρ':Nat→Nat} {hp1:List Blk} {w':World} (T:Step ρ (Sym.mask M hp) w ρ' hp1 w')
    {hp2:List Blk} (hl:hp2.length=hp1.length) (hg: ∀k:Nat,hp2[k]?=if k∈M then hp[k]? else hp1[k]?):Step ρ0 hp0 w0 ρ' (Sym.mask D hp2) w':=by
  have hle:hp.length≤hp1.length:=by have:=T.le;rwa [yh] at this
  have hsame: ∀k,k<hp.length→ρ' k=ρ k:=fun k hk=>T.same k (by rwa [yh])
  have kinds: ∀(k:Nat) el ps,(Sym.mask D hp2)[k]?=some (Blk.mk el ps)→(k∈M∧k<hp.length∧(Sym.mask D hp)[k]?=some (.mk el ps))∨(k∉M∧hp1[k]?=some (.mk el ps)):=by
    intro k el ps hk
    rw [xc] at hk
    obtain ⟨h1,h2⟩:=hk
    rw [hg] at h2
    by_cases hm:k∈M
    ·rw [if_pos hm] at h2;exact .inl ⟨hm,hM k hm,xc.2 ⟨h1,h2⟩⟩
    ·rw [if_neg hm] at h2;exact .inr ⟨hm,h2⟩
  have up: ∀(k:Nat) el ps,(Sym.mask M hp)[k]?=some (Blk.mk el ps)→(Sym.mask D hp)[k]?=some (.mk el ps):=fun k el ps hk=>by
    rw [xc] at hk ⊢
    exact ⟨fun h=>hk.1 (hD k h),hk.2⟩
  have apart: ∀(k:Nat) el ps (k':Nat) el' ps',k∈M→(Sym.mask D hp)[k]?=some (Blk.mk el ps)→hp1[k']?=some (Blk.mk el' ps')→ρ k≠ρ' k':=by
    intro k el ps k' el' ps' hk h1 h2 he
    rcases T.foot (ρ' k') ⟨k',el',ps',h2,rfl⟩ with ⟨j,e,q,hj,hje⟩|hlt
    ·have:j=k:=S.rel.inj j k _ _ _ _ (up j e q hj) h1 (by rw [hje,he])
     subst this
     exact (xc.1 hj).1 hk
    ·have:=S.rel.lt h1;omega
  refine ⟨⟨?_,?_⟩,fun k hk=>?_,?_,?_,?_⟩
  ·intro k el ps hk
   rw [yh,hl]
   rcases kinds k el ps hk with ⟨hm,hkl,hk'⟩|⟨hm,hk'⟩
   ·obtain ⟨h1,el2,fz,h2,h3⟩:=S.rel.mem k el ps hk'
    rw [yh] at h1
    have hc:zw ρ' ps=zw ρ ps:=xy (p:=(· <hp.length)) (fun x hx=>hsame x hx) ps h1
    refine ⟨yz (fun x hx=>Nat.lt_of_lt_of_le hx hle) _ h1,el2,fz,?_,by rw [hc];exact h3⟩
    rw [hsame k hkl,hc,T.ext.keep _ (S.rel.lt hk'),h2]
    rintro ⟨j,e,q,hj,hje⟩
    have:j=k:=S.rel.inj j k _ _ _ _ (up j e q hj) hk' hje
    subst this
    exact (xc.1 hj).1 hm
   ·exact T.rel.mem k el ps hk'
  ·intro k k' el1 ps1 el2 ps2 h1 h2 he
   rcases kinds k el1 ps1 h1 with ⟨hm,hkl,hk'⟩|⟨hm,hk'⟩<;>rcases kinds k' el2 ps2 h2 with ⟨hn,hjl,hj'⟩|⟨hn,hj'⟩
   ·rw [hsame k hkl,hsame k' hjl] at he;exact S.rel.inj k k' _ _ _ _ hk' hj' he
   ·rw [hsame k hkl] at he;exact absurd he (apart k _ _ k' _ _ hm hk' hj')
   ·rw [hsame k' hjl] at he;exact absurd he.symm (apart k' _ _ k _ _ hn hj' hk')
   ·exact T.rel.inj k k' _ _ _ _ hk' hj' he
  ·have:k<hp.length:=by have:=S.le;rw [yh] at this;omega
   rw [hsame k this];exact S.same k hk
  ·have:=S.le;rw [yh] at this ⊢;omega
  ·refine S.ext.trans T.ext fun b hb=>?_
   obtain ⟨k,el,ps,hk,rfl⟩:=hb
   exact S.foot _ ⟨k,el,ps,up k el ps hk,rfl⟩
  ·rintro b ⟨k,el,ps,hk,rfl⟩
   rcases kinds k el ps hk with ⟨hm,hkl,hk'⟩|⟨hm,hk'⟩
   ·rw [hsame k hkl];exact S.foot _ ⟨k,el,ps,hk',rfl⟩
   ·rcases T.foot (ρ' k) ⟨k,el,ps,hk',rfl⟩ with ⟨j,e,q,hj,hje⟩|hlt
    ·rw [←hje];exact S.foot _ ⟨j,e,q,up j e q hj,rfl⟩
    ·exact .inr (Nat.le_trans S.ext.size hlt)
end
end Go.Sym
