/-
  Contracts of functions of the program, each said of symbolic values, and plain laws; no condition beyond each statement's own.
-/
import Derived.Test.YtmmpgjcpielefaaGreatGLStreamTwins10
set_option linter.unusedSimpArgs false
set_option linter.unusedVariables false
namespace Go.Sym
def Ret {α:Type} (F:(α→Prop)→Prop):Prop:= ∀k,F k→ ∃x,k x∧ ∀k':α→Prop,k' x→F k'
theorem z3s {α:Type} (x:α):Ret (fun k=>k x):=fun _ h=>⟨x,h,fun _ h=>h⟩
theorem ze {α:Type}:Ret (fun _:α→Prop=>False):=fun _ h=>h.elim
theorem yo {α:Type} {p:Prop} {F:(α→Prop)→Prop} (h:Ret F):Ret (fun k=>Pre p (F k)):=fun k hk=>by
  obtain ⟨h1,h2⟩:=zm hk
  obtain ⟨x,h3,h4⟩:=h k h2
  exact ⟨x,h3,fun k' h=>zr h1 (h4 k' h)⟩
theorem z58 {R:SV→Prop}:Ret (fun k:SV→Prop=>zl9 R k):=fun k hk=>by
  obtain ⟨v,h1,h2⟩:=z6h hk
  exact ⟨v,h2,fun k' h=>zzo v h1 h⟩
theorem z10 {α:Type} {t:Bool} {F G:(α→Prop)→Prop} (h:Ret F) (h':Ret G):Ret (fun k=>zv t (F k) (G k)):=fun k hk=>by
  obtain ⟨h1,h2⟩:=zt hk
  cases t with
  |true=>
   obtain ⟨x,h3,h4⟩:=h k (h1 rfl)
   exact ⟨x,h3,fun k' h=>zi rfl (h4 k' h)⟩
  |false=>
   obtain ⟨x,h3,h4⟩:=h' k (h2 rfl)
   exact ⟨x,h3,fun k' h=>zj rfl (h4 k' h)⟩
section
variable {β:Type}
theorem zjc {α:Type} {a b:List α} {G:List α→(β→Prop)→Prop} (h: ∀l,Ret (G l)):Ret (fun k=>zc5 a b fun l=>G l k):=by
  induction a generalizing G with
  |nil=>exact h _
  |cons y ys ih=>exact ih (G:=fun l=>G (y ::l)) fun l=>h _
theorem z75 {α:Type} {l:List α} {i:Nat} {x:α} {G:List α→(β→Prop)→Prop} (h: ∀l,Ret (G l)):Ret (fun k=>zii l i x fun l=>G l k):=by
  induction l generalizing G i with
  |nil=>exact ze
  |cons y ys ih=>
   cases i with
   |zero=>exact h _
   |succ i=>exact ih (G:=fun l=>G (y ::l)) fun l=>h _
theorem zi5 {α:Type} {l:List α} {i:Nat} {G:α→(β→Prop)→Prop} (h: ∀x,Ret (G x)):Ret (fun k=>zdi l i fun x=>G x k):=by
  induction l generalizing i with
  |nil=>exact ze
  |cons y ys ih=>
   cases i with
   |zero=>exact h _
   |succ i=>exact ih
theorem yj {α:Type} {l:List (Nat×α)} {n:Nat} {G:α→(β→Prop)→Prop} (h: ∀x,Ret (G x)):Ret (fun k=>yf l n fun x=>G x k):=by
  induction l with
  |nil=>exact ze
  |cons p r ih=>
   obtain ⟨i,v⟩:=p
   simp only [yf]
   generalize Nat.beq i n=t
   cases t
   ·exact ih
   ·exact h _
theorem zy5 {v:Value} {G:SV→(β→Prop)→Prop} (h: ∀x,Ret (G x)):Ret (fun k=>zm3 v fun x=>G x k):=by
  intro k hk
  unfold zm3 at hk ⊢
  split at hk
  case h_12=>exact hk.elim
  all_goals (try split at hk)
  all_goals first
    |exact hk.elim
    |exact h _ k hk
    |(rename_i e;simp only [e];exact h _ k hk)
theorem zac {tm:List (Nat×SV)} {x:Operand} {G:SV→(β→Prop)→Prop} (h: ∀x,Ret (G x)):Ret (fun k=>evK tm x fun x=>G x k):=by
  cases x with
  |tmp t=>exact yj h
  |const v=>exact zy5 h
  |func f=>exact h _
  |global g=>exact ze
theorem zzz {tm:List (Nat×SV)} {xs:List Operand} {G:List SV→(β→Prop)→Prop} (h: ∀x,Ret (G x)):Ret (fun k=>zxj tm xs fun x=>G x k):=by
  induction xs generalizing G with
  |nil=>exact h _
  |cons x xs ih=>exact zac fun v=>ih (G:=fun vs=>G (v ::vs)) fun vs=>h _
theorem znv {tm:List (Nat×SV)} {xs:List (Nat×Operand)} {G:List (Nat×SV)→(β→Prop)→Prop} (h: ∀x,Ret (G x)):Ret (fun k=>zhx tm xs fun x=>G x k):=by
  induction xs generalizing G with
  |nil=>exact h _
  |cons x xs ih=>
   obtain ⟨i,x⟩:=x
   exact zac fun v=>ih (G:=fun vs=>G ((i,v) ::vs)) fun vs=>h _
theorem zmo {v:SV} {G:Nat→(β→Prop)→Prop} (h: ∀x,Ret (G x)):Ret (fun k=>zsu v fun x=>G x k):=by
  cases v<;>first|exact ze|exact h _|exact yo (h _)
theorem zq8 {v:SV} {G:Nat→(β→Prop)→Prop} (h: ∀x,Ret (G x)):Ret (fun k=>z00 v fun x=>G x k):=by
  cases v<;>first|exact ze|exact h _|exact yo (h _)
theorem zjb {tm:List (Nat×SV)} {x:Option Operand} {G:Option Nat→(β→Prop)→Prop} (h: ∀x,Ret (G x)):Ret (fun k=>zgl tm x fun x=>G x k):=by
  cases x with
  |none=>exact h _
  |some x=>exact zac fun v=>zmo (G:=fun n=>G (some n)) fun n=>h _
theorem zic {ps:List SV} {j b:Nat} {G:List SV→List SV→(β→Prop)→Prop} (h: ∀a r,Ret (G a r)):Ret (fun k=>zbh ps j b fun a r=>G a r k):=by
  induction ps generalizing j b G with
  |nil=>
   cases j with
   |zero=>
    simp only [zbh]
    generalize Nat.beq b 0=t
    cases t
    ·exact ze
    ·exact h _ _
   |succ j=>exact ze
  |cons p ps ih=>
   cases j with
   |zero=>
    simp only [zbh]
    generalize Nat.beq b 0=t
    cases t
    ·exact ze
    ·exact h _ _
   |succ j=>
    simp only [zbh]
    generalize Nat.ble p.size b=t
    cases t
    ·exact ze
    ·exact ih (G:=fun a r=>G (p ::a) r) fun a r=>h _ _
theorem zvr {ps:List SV} {n:Nat} {G:List SV→List SV→(β→Prop)→Prop} (h: ∀a r,Ret (G a r)):Ret (fun k=>zfd ps n fun a r=>G a r k):=by
  induction ps generalizing n G with
  |nil=>
   cases n with
   |zero=>exact h _ _
   |succ n=>exact ze
  |cons p ps ih=>
   cases n with
   |zero=>exact h _ _
   |succ n=>
    simp only [zfd]
    generalize Nat.ble p.size (n+1)=t
    cases t
    ·exact ze
    ·exact ih (G:=fun a r=>G (p ::a) r) fun a r=>h _ _
theorem zv1 {ps:List SV} {G:SV→(β→Prop)→Prop} (h: ∀v,Ret (G v)):Ret (fun k=>zhw ps fun v=>G v k):=by
  match ps with
  | []=>exact h _
  | [p]=>
    simp only [zhw]
    generalize p.isRow=t
    cases t
    ·exact h _
    ·exact h _
  |p ::q ::r=>exact h _
theorem zk0 {ps:List SV} {j b c:Nat} {G:Nat→Nat→List (Nat×Nat)→(β→Prop)→Prop} (h: ∀a b c,Ret (G a b c)):Ret (fun k=>zfz ps j b c fun x y z=>G x y z k):=by
  induction ps generalizing j b c with
  |nil=>
   cases c with
   |zero=>exact h _ _ _
   |succ c=>exact ze
  |cons p ps ih=>
   cases c with
   |zero=>exact h _ _ _
   |succ c=>
    simp only [zfz]
    generalize Nat.ble p.size (c+1)=t
    cases t
    ·generalize p.isRow=t
     cases t
     ·exact ze
     ·exact h _ _ _
    ·exact ih
theorem z7b:
    (∀v:SV,∀(G:List SV→(β→Prop)→Prop),(∀l,Ret (G l))→Ret (fun k=>zbp v fun l=>G l k))∧
    (∀vs:List SV,∀(G:List SV→(β→Prop)→Prop),(∀l,Ret (G l))→Ret (fun k=>zd7 vs fun l=>G l k)):=by
  have one: ∀v:SV,∀(G:List SV→(β→Prop)→Prop),(∀l,Ret (G l))→Ret (fun k=>zbp v fun l=>G l k):=fun v=>by
    refine SV.rec (motive_1:=fun v=> ∀(G:List SV→(β→Prop)→Prop),(∀l,Ret (G l))→Ret (fun k=>zbp v fun l=>G l k))
      (motive_2:=fun vs=> ∀(G:List SV→(β→Prop)→Prop),(∀l,Ret (G l))→Ret (fun k=>zd7 vs fun l=>G l k))
      ?_ ?_ ?_ ?_ ?_ ?_ ?_ ?_ ?_ ?_ ?_ ?_ ?_ ?_ ?_ ?_ ?_ ?_ ?_ ?_ ?_ ?_ ?_ ?_ ?_ ?_ ?_ v
    case refine_22=>intro ps ih G h;exact ih G h
    case refine_26=>intro G h;exact h _
    case refine_27=>
      intro v vs ihv ihs G h
      exact ihv (fun a k=>zd7 vs fun b=>zc5 a b fun l=>G l k) fun a=>ihs (fun b k=>zc5 a b fun l=>G l k) fun b=>zjc h
    all_goals (intros;rename_i h;exact h _)
  refine ⟨one,fun vs=>?_⟩
  induction vs with
  |nil=>intro G h;exact h _
  |cons v vs ih=>
   intro G h
   exact one v (fun a k=>zd7 vs fun b=>zc5 a b fun l=>G l k) fun a=>ih (fun b k=>zc5 a b fun l=>G l k) fun b=>zjc h
theorem zee {v:SV} {G:List SV→(β→Prop)→Prop} (h: ∀l,Ret (G l)):Ret (fun k=>zbp v fun l=>G l k):=z7b.1 v G h
theorem zo3 {o:List (Nat×Nat)} {es:Nat} {G:Nat→Nat→(β→Prop)→Prop} (h: ∀i c,Ret (G i c)):Ret (fun k=>zj1 o es fun i c=>G i c k):=by
  match o with
  | []=>exact h _ _
  | [(i,e)]=>
    simp only [zj1]
    generalize Nat.beq e es=t
    cases t
    ·exact ze
    ·exact h _ _
  | [(i,e),(c,1)]=>
    simp only [zj1]
    generalize Nat.beq e es=t
    cases t
    ·exact ze
    ·exact h _ _
  | [(i,e),(c,0)]=>exact ze
  | [(i,e),(c,n+2)]=>exact ze
  |x ::(c,n) ::z ::r=>simp only [zj1];exact ze
theorem z6f {a:At} {G:SV→(β→Prop)→Prop} (h: ∀v,Ret (G v)):Ret (fun k=>atK a fun v=>G v k):=by
  cases a<;>exact h _
theorem z7s {as:List At} {G:List SV→(β→Prop)→Prop} (h: ∀v,Ret (G v)):Ret (fun k=>z4n as fun v=>G v k):=by
  induction as generalizing G with
  |nil=>exact h _
  |cons a as ih=>exact z6f fun v=>ih (G:=fun vs=>G (v ::vs)) fun vs=>h _
theorem z5c {α:Type} {l:List α} {n:Nat} {G:List α→(β→Prop)→Prop} (h: ∀v,Ret (G v)):Ret (fun k=>zwf l n fun v=>G v k):=by
  induction l generalizing n with
  |nil=>
   cases n with
   |zero=>exact h _
   |succ n=>exact ze
  |cons x xs ih=>
   cases n with
   |zero=>exact h _
   |succ n=>exact ih
theorem z0i {α:Type} {l:List α} {n:Nat} {G:List α→(β→Prop)→Prop} (h: ∀v,Ret (G v)):Ret (fun k=>zqp l n fun v=>G v k):=by
  induction l generalizing n G with
  |nil=>
   cases n with
   |zero=>exact h _
   |succ n=>exact ze
  |cons x xs ih=>
   cases n with
   |zero=>exact h _
   |succ n=>exact ih (G:=fun l=>G (x ::l)) fun l=>h _
theorem z5y {p:SV} {o:List (Nat×Nat)} {G:SV→(β→Prop)→Prop} (h: ∀v,Ret (G v)):Ret (fun k=>zm1 p o fun v=>G v k):=by
  cases p
  case tab n es f=>dsimp only [zm1];exact zo3 fun i c=>yo (zi5 fun a=>z6f h)
  all_goals first
    |exact ze
    |exact yo (h _)
    |(cases o<;>first|exact h _|exact ze)
theorem z6z {p:SV} {o:List (Nat×Nat)} {m:Nat} {G:SV→(β→Prop)→Prop} (h: ∀v,Ret (G v)):Ret (fun k=>zrb p o m fun v=>G v k):=by
  cases p
  case tab n es f=>dsimp only [zrb];exact zo3 fun i c=>yo (z5c fun r=>z0i fun as=>z7s (G:=fun vs=>G (.agg vs)) fun vs=>h _)
  all_goals first
    |exact ze
    |exact yo (h _)
theorem zkv {ti:TyI} {ps:List SV} {j b:Nat} {o:List (Nat×Nat)} {G:SV→(β→Prop)→Prop} (h: ∀v,Ret (G v)):Ret (fun k=>zk3 ti ps j b o fun v=>G v k):=by
  obtain ⟨d,sz,bytes,zero,eqOk⟩:=ti
  refine zic (G:=fun _ r k=>match (generalizing:=false) d with
    | .arr .. | .struct .. =>match (generalizing:=false) o with
      | []=>zfd r sz fun a _=>zhw a fun v=>G v k
      |_=>match (generalizing:=false) r with|p ::_=>zrb p o sz fun v=>G v k| []=>False
    |_=>match (generalizing:=false) r with|p ::_=>zm1 p o (fun v=>G v k)| []=>False) fun a r=>?_
  have s:Ret (fun k=>match (generalizing:=false) r with|p ::_=>zm1 p o (fun v=>G v k)| []=>False):=by
    cases r
    ·exact ze
    ·exact z5y h
  have t:Ret (fun k=>match (generalizing:=false) o with
   | []=>zfd r sz fun a _=>zhw a fun v=>G v k
   |_=>match (generalizing:=false) r with|p ::_=>zrb p o sz fun v=>G v k| []=>False):=by
    cases o with
    |nil=>exact zvr fun a _=>zv1 h
    |cons x o=>
     cases r
     ·exact ze
     ·exact z6z h
  cases d<;>first|exact s|exact t
theorem z31 {vs:List SV} {G:List UInt64→(β→Prop)→Prop} (h: ∀v,Ret (G v)):Ret (fun k=>zrt vs fun v=>G v k):=by
  induction vs generalizing G with
  |nil=>exact h _
  |cons v vs ih=>cases v<;>first|exact ze|exact ih (G:=fun l=>G (_ ::l)) fun l=>h _
theorem zu6 {v:SV} {G:At→(β→Prop)→Prop} (h: ∀v,Ret (G v)):Ret (fun k=>znq v fun v=>G v k):=by
  cases v<;>first|exact ze|exact h _
theorem zrj {vs:List SV} {G:List At→(β→Prop)→Prop} (h: ∀v,Ret (G v)):Ret (fun k=>zi8 vs fun v=>G v k):=by
  induction vs generalizing G with
  |nil=>exact h _
  |cons v vs ih=>exact zu6 fun a=>ih (G:=fun as=>G (a ::as)) fun l=>h _
theorem zsn {p:SV} {o:List (Nat×Nat)} {v:SV} {G:SV→(β→Prop)→Prop} (h: ∀v,Ret (G v)):Ret (fun k=>zed p o v fun v=>G v k):=by
  have plain:Ret (fun k=>match (generalizing:=false) o with
    | []=>match (generalizing:=false) v.scalar with|true=>G v k|false=>False
    |_=>False):=by
    cases o with
    |nil=>
     generalize v.scalar=t
     cases t
     ·exact ze
     ·exact h _
    |cons x o=>exact ze
  cases p
  case tab n es f=>
    have one:Ret (fun k=>znq v fun a=>zj1 o es fun i c=>Pre (i<n) (zii (f i) c a fun r=>G (.tab n es (zft f i r)) k)):=
      zu6 fun a=>zo3 fun i c=>yo (z75 (G:=fun r=>G (.tab n es (zft f i r))) fun r=>h _)
    cases v
    case agg vs=>
      refine zrj (G:=fun as k=>zj1 o es fun i c=>match (generalizing:=false) c with
        |0=>Pre (i<n∧as.length=es) (G (.tab n es (zft f i as)) k)
        |_=>False) fun as=>zo3 (G:=fun i c k=>match (generalizing:=false) c with
        |0=>Pre (i<n∧as.length=es) (G (.tab n es (zft f i as)) k)
        |_=>False) fun i c=>?_
      cases c
      ·exact yo (h _)
      ·exact ze
    all_goals exact one
  case arr8 n l=>cases v<;>first|exact ze|exact yo (h _)
  case arr32 n l=>cases v<;>first|exact ze|exact yo (h _)
  case arr64 n l=>cases v<;>first|exact ze|exact yo (h _)|exact z31 fun x=>yo (h _)
  case arri n l=>cases v<;>first|exact ze|exact yo (h _)
  case arrs n l=>cases v<;>first|exact ze|exact yo (h _)
  case agg ps=>exact ze
  case tup ps=>exact ze
  all_goals (cases o<;>first|exact ze|(dsimp only [zed];exact plain))
theorem zmh {ti:TyI} {ps:List SV} {j b:Nat} {o:List (Nat×Nat)} {v:SV} {G:List SV→(β→Prop)→Prop} (h: ∀v,Ret (G v)):Ret (fun k=>zem ti ps j b o v fun v=>G v k):=by
  unfold zem
  refine zic (G:=fun a r k=>match (generalizing:=false) o with
    | []=>match (generalizing:=false) v.many with
      |true=>zfd r ti.sz fun _ r'=>zbp v fun fs=>match (generalizing:=false) Nat.beq (z8 fs) ti.sz with|true=>(match (generalizing:=false) zhb fs with|true=>zc5 fs r' fun q=>zc5 a q fun v=>G v k|false=>False)|false=>False
      |false=>match (generalizing:=false) Nat.beq ti.sz 1 with
       |true=>match (generalizing:=false) r with|p ::r'=>zed p [] v fun p'=>zc5 a (p' ::r') fun v=>G v k| []=>False
       |false=>False
    |_=>match (generalizing:=false) Nat.beq v.size ti.sz with
     |true=>match (generalizing:=false) r with|p ::r'=>zed p o v fun p'=>zc5 a (p' ::r') fun v=>G v k| []=>False
     |false=>False) fun a r=>?_
  cases o with
  |nil=>
   generalize v.many=t
   cases t
   ·generalize Nat.beq ti.sz 1=t
    cases t
    ·exact ze
    ·cases r with
     |nil=>exact ze
     |cons p r'=>exact zsn fun p'=>zjc h
   ·refine zvr fun _ r'=>zee (G:=fun fs k=>match (generalizing:=false) Nat.beq (z8 fs) ti.sz with|true=>(match (generalizing:=false) zhb fs with|true=>zc5 fs r' fun q=>zc5 a q fun v=>G v k|false=>False)|false=>False) fun fs=>?_
    generalize Nat.beq (z8 fs) ti.sz=t
    cases t
    ·exact ze
    ·generalize zhb fs=t
     cases t
     ·exact ze
     ·exact zjc fun q=>zjc h
  |cons x o=>
   dsimp only
   generalize Nat.beq v.size ti.sz=t
   cases t
   ·exact ze
   ·cases r with
    |nil=>exact ze
    |cons p r'=>exact zsn fun p'=>zjc h
theorem z78 {op:BinOp} {a b:Int} {G:SV→(β→Prop)→Prop} (h: ∀v,Ret (G v)):Ret (fun k=>z4m op a b fun v=>G v k):=by
  cases op<;>first|exact ze|exact h _|exact yo (h _)
theorem z90 {op:BinOp} {a b:UInt8} {G:SV→(β→Prop)→Prop} (h: ∀v,Ret (G v)):Ret (fun k=>u8K op a b fun v=>G v k):=by
  cases op<;>first|exact ze|exact h _|exact yo (h _)
theorem z6l {op:BinOp} {a b:UInt16} {G:SV→(β→Prop)→Prop} (h: ∀v,Ret (G v)):Ret (fun k=>z36 op a b fun v=>G v k):=by
  cases op<;>first|exact ze|exact h _|exact yo (h _)
theorem z6m {op:BinOp} {a b:UInt32} {G:SV→(β→Prop)→Prop} (h: ∀v,Ret (G v)):Ret (fun k=>z54 op a b fun v=>G v k):=by
  cases op<;>first|exact ze|exact h _|exact yo (h _)
theorem z65 {op:BinOp} {a b:UInt64} {G:SV→(β→Prop)→Prop} (h: ∀v,Ret (G v)):Ret (fun k=>z4j op a b fun v=>G v k):=by
  cases op<;>first|exact ze|exact h _|exact yo (h _)
theorem z7e {op:BinOp} {a b:List UInt8} {G:SV→(β→Prop)→Prop} (h: ∀v,Ret (G v)):Ret (fun k=>z48 op a b fun v=>G v k):=by
  cases op<;>first|exact ze|exact h _|exact yo (h _)
theorem z8f {x y:SV} {G:SV→(β→Prop)→Prop} (h: ∀v,Ret (G v)):Ret (fun k=>z37 x y fun v=>G v k):=by
  cases x<;>first
    |exact zq8 fun n=>yo (h _)
    |exact zq8 fun n=>ze
theorem z6p {x y:SV} {G:SV→(β→Prop)→Prop} (h: ∀v,Ret (G v)):Ret (fun k=>z5o x y fun v=>G v k):=by
  cases x<;>first
    |exact zq8 fun n=>yo (h _)
    |exact zq8 fun n=>ze
theorem z8d {op:BinOp} {x y:SV} {G:SV→(β→Prop)→Prop} (h: ∀v,Ret (G v)):Ret (fun k=>zyf op x y fun v=>G v k):=by
  cases op
  case shl=>exact z8f h
  case shr=>exact z6p h
  all_goals
    cases x<;>first
      |exact ze
      |(cases y<;>dsimp only [zyf]<;>first|exact ze|exact z78 h|exact z90 h|exact z6l h|exact z6m h|exact z65 h|exact z7e h)
theorem z9s {op:UnOp} {x:SV} {G:SV→(β→Prop)→Prop} (h: ∀v,Ret (G v)):Ret (fun k=>unK op x fun v=>G v k):=by
  cases op<;>cases x<;>first|exact ze|exact h _|exact yo (h _)
theorem zuu {d:IntKind} {x:SV} {G:SV→(β→Prop)→Prop} (h: ∀v,Ret (G v)):Ret (fun k=>zfc d x fun v=>G v k):=by
  cases d<;>cases x<;>first|exact ze|exact h _|exact yo (h _)
end
end Go.Sym

namespace Go.Sym
section
variable {β:Type} {Γ:Ctx}
theorem zlg {hp:List Blk} {n:Nat} {G:TypeId→List SV→(β→Prop)→Prop} (h: ∀a b,Ret (G a b)):Ret (fun k=>zc0 hp n fun a b=>G a b k):=by
  refine zi5 (G:=fun (b:Blk) k=>match (generalizing:=false) b with| .mk el ps=>G el ps k| .dead=>False) fun b=>?_
  cases b
  ·exact h _ _
  ·exact ze
theorem z8w {hp:List Blk} {n j b:Nat} {G:SV→(β→Prop)→Prop} (h: ∀v,Ret (G v)):Ret (fun k=>z1t hp n j b fun v=>G v k):=by
  refine zlg fun _ ps=>zic (G:=fun _ r k=>match (generalizing:=false) r with|p ::_=>G p k| []=>False) fun _ r=>?_
  cases r
  ·exact ze
  ·exact h _
theorem z3f {hp:List Blk} {v:SV} {G:List UInt8→(β→Prop)→Prop} (h: ∀v,Ret (G v)):Ret (fun k=>zg8 hp v fun v=>G v k):=by
  cases v
  case sl k j b o n c=>
    refine z8w (G:=fun p k=>match (generalizing:=false) p with
      | .arr8 _ l=>Pre (off o+n≤l.length) (G ((l.drop (off o)).take n) k)
      |_=>False) fun p=>?_
    cases p<;>first|exact ze|exact yo (h _)
  all_goals first|exact ze|exact h _
theorem zmg {fi:TyI} {ps:List SV} {c:Nat} {G:SV→(β→Prop)→Prop} (h: ∀v,Ret (G v)):Ret (fun k=>zgb fi ps c fun v=>G v k):=by
  cases c with
  |zero=>dsimp only [zgb];exact zkv h
  |succ c=>dsimp only [zgb];exact zk0 fun j b o=>zkv h
theorem ycr (f:Nat):(∀(t:TypeId) (x y:SV) (G:Bool→(β→Prop)→Prop),(∀v,Ret (G v))→Ret (fun k=>eqK Γ f t x y fun v=>G v k))∧
    (∀(fs:List (Nat×TypeId)) (xs ys:List SV) (G:Bool→(β→Prop)→Prop),(∀v,Ret (G v))→Ret (fun k=>zla Γ f fs xs ys fun v=>G v k)):=by
  induction f with
  |zero=>exact ⟨fun t x y G h=>by simp only [eqK];exact ze,fun fs xs ys G h=>by simp only [zla];exact ze⟩
  |succ f ih=>
   refine ⟨fun t x y G h=>?_,fun fs xs ys G h=>?_⟩
   ·intro k hk
    simp only [eqK] at hk ⊢
    revert k
    refine yj (G:=fun ti k=>_) fun ti=>?_
    obtain ⟨d,sz,bytes,zero,eqOk⟩:=ti
    dsimp only
    cases d
    case int kd=>cases kd<;>first|exact ze|(cases x<;>first|exact ze|(cases y<;>first|exact ze|exact h _))
    case arr n e=>
      refine yj (G:=fun ei k=>_) fun ei=>?_
      obtain ⟨d,sz,bytes,zero,eqOk⟩:=ei
      dsimp only
      cases d
      case int kd=>
        cases kd<;>first
          |exact ze
          |(cases x<;>first
             |exact ze
             |(cases y<;>first
                |exact ze
                |(rename_i m a m' b
                  dsimp only
                  generalize Nat.beq m n=t
                  generalize Nat.beq m' n=t'
                  cases t
                  ·exact ze
                  ·cases t'
                   ·exact ze
                   ·exact h _)))
      all_goals exact ze
    case struct fs=>
      cases eqOk
      ·exact ze
      ·dsimp only
       generalize x.many=t
       generalize y.many=t'
       cases t
       ·exact ze
       ·cases t'
        ·exact ze
        ·exact zee fun xs=>zee fun ys=>ih.2 _ _ _ _ h
    all_goals first|exact ze|(cases x<;>first|exact ze|(cases y<;>first|exact ze|exact h _))
   ·cases fs with
    |nil=>simp only [zla];exact h _
    |cons p fs=>
     obtain ⟨c,t⟩:=p
     simp only [zla]
     exact yj fun ti=>zmg fun a=>zmg fun b=>ih.1 _ _ _ (fun r k=>zla Γ f fs xs ys fun r'=>G (r&&r') k) fun r=>ih.2 _ _ _ (fun r' k=>G (r&&r') k) fun r'=>h _
theorem z6e {f:Nat} {t:TypeId} {x y:SV} {G:Bool→(β→Prop)→Prop} (h: ∀v,Ret (G v)):Ret (fun k=>eqK Γ f t x y fun v=>G v k):=(ycr f).1 t x y G h
theorem z39 {op:BinOp} {t:TypeId} {x y:SV} {G:SV→(β→Prop)→Prop} (h: ∀v,Ret (G v)):Ret (fun k=>zvs Γ op t x y fun v=>G v k):=by
  have go: ∀(g:Bool→SV),Ret (fun k=>match (generalizing:=false) x.many with
   |true=>yf Γ.ty t fun ti=>match (generalizing:=false) ti.eqOk with|true=>eqK Γ 60 t x y (fun r=>G (g r) k)|false=>False
   |false=>eqK Γ 60 t x y (fun r=>G (g r) k)):=fun g=>by
    generalize x.many=m
    cases m
    ·exact z6e (G:=fun r=>G (g r)) fun r=>h _
    ·refine yj (G:=fun (ti:TyI) k=>match (generalizing:=false) ti.eqOk with|true=>eqK Γ 60 t x y (fun r=>G (g r) k)|false=>False) fun ti=>?_
     generalize ti.eqOk=q
     cases q
     ·exact ze
     ·exact z6e (G:=fun r=>G (g r)) fun r=>h _
  have big:Ret (fun k=>match (generalizing:=false) op with
    | .eql=>match (generalizing:=false) x.many with
      |true=>yf Γ.ty t fun ti=>match (generalizing:=false) ti.eqOk with|true=>eqK Γ 60 t x y (fun r=>G (.bool r) k)|false=>False
      |false=>eqK Γ 60 t x y (fun r=>G (.bool r) k)
    | .neq=>match (generalizing:=false) x.many with
      |true=>yf Γ.ty t fun ti=>match (generalizing:=false) ti.eqOk with|true=>eqK Γ 60 t x y (fun r=>G (.bool (!r)) k)|false=>False
      |false=>eqK Γ 60 t x y (fun r=>G (.bool (!r)) k)
    |_=>False):=by
    cases op<;>first|exact ze|exact go (fun r=> .bool r)|exact go (fun r=> .bool (!r))
  cases x<;>first|exact z8d h|exact big
theorem zzf {l:List UInt8} {lo hi:Option Nat} {G:SV→(β→Prop)→Prop} (h: ∀v,Ret (G v)):Ret (fun k=>ztj l lo hi fun v=>G v k):=by
  cases lo<;>cases hi<;>first|exact h _|exact yo (h _)
theorem zsh {k j b:Nat} {o:List (Nat×Nat)} {n c es:Nat} {lo hi mx:Option Nat} {G:SV→(β→Prop)→Prop} (h: ∀v,Ret (G v)):Ret (fun K=>zmb k j b o n c es lo hi mx fun v=>G v K):=by
  cases lo<;>cases hi<;>cases mx<;>first|exact ze|exact h _|exact yo (h _)|exact yo (yo (h _))
theorem z07 {t:TypeId} {x:SV} {lo hi mx:Option Nat} {G:SV→(β→Prop)→Prop} (h: ∀v,Ret (G v)):Ret (fun K=>zpy Γ t x lo hi mx fun v=>G v K):=by
  cases x
  case str l=>
    refine yj (G:=fun ti K=>_) fun ti=>?_
    obtain ⟨d,sz,bytes,zero,eqOk⟩:=ti
    cases d<;>first|exact ze|(cases mx<;>first|exact ze|exact zzf h)
  case nilsl=>
    refine yj (G:=fun ti K=>_) fun ti=>?_
    obtain ⟨d,sz,bytes,zero,eqOk⟩:=ti
    cases d<;>first|exact ze|(refine yj (G:=fun ti K=>_) fun ti=>?_;cases hi<;>cases mx<;>first|exact ze|exact yo (h _))
  case sl k j b o n c=>
    refine yj (G:=fun ti K=>_) fun ti=>?_
    obtain ⟨d,sz,bytes,zero,eqOk⟩:=ti
    cases d<;>first|exact ze|exact yj fun ei=>zsh h
  case ptr k j b o=>
    refine yj (G:=fun ti K=>_) fun ti=>?_
    obtain ⟨d,sz,bytes,zero,eqOk⟩:=ti
    cases d<;>first|exact ze|exact yj fun ei=>zsh h
  all_goals exact ze
theorem z7m {z:SV} {n:Nat} {G:List SV→(β→Prop)→Prop} (h: ∀v,Ret (G v)):Ret (fun K=>zth z n fun v=>G v K):=by
  induction n generalizing G with
  |zero=>exact h _
  |succ n ih=>exact ih (G:=fun l=>G (z ::l)) fun l=>h _
theorem zvz {z:SV} {n:Nat} {G:List SV→(β→Prop)→Prop} (h: ∀v,Ret (G v)):Ret (fun K=>zr9 z n fun v=>G v K):=by
  cases z
  case arr8 m l=>cases l<;>first|exact ze|exact yo (h _)
  case agg ps=>
    refine zrj (G:=fun as K=>match (generalizing:=false) as with| []=>False|a ::r=>G [.tab n (r.length+1) fun _=>a ::r] K) fun as=>?_
    cases as
    ·exact ze
    ·exact h _
  all_goals first|exact ze|exact h _|exact z7m h
theorem zt0 {ei:TyI} {ps:List SV} {i:Nat} {v:SV} {G:List SV→(β→Prop)→Prop} (h: ∀v,Ret (G v)):Ret (fun K=>zf2 ei ps i v fun v=>G v K):=by
  have w:Ret (fun K=>zfz ps 0 0 (i*ei.sz) fun j b o=>zem ei ps j b o v fun v=>G v K):=zk0 fun j b o=>zmh h
  match ps,w with
  | [],w=>exact w
  | [p],w=>
    dsimp only [zf2]
    generalize p.isRow=t
    cases t
    ·exact w
    ·exact zmh h
  |p ::q ::r,w=>exact w
theorem zj3 {ei:TyI} {ps:List SV} {g:List (Nat×SV)} {G:List SV→(β→Prop)→Prop} (h: ∀v,Ret (G v)):Ret (fun K=>zd6 ei ps g fun v=>G v K):=by
  induction g generalizing ps with
  |nil=>exact h _
  |cons p r ih=>obtain ⟨i,v⟩:=p;exact zt0 fun ps'=>ih
theorem zov {fs:List (Nat×TypeId)} {ps:List SV} {g:List (Nat×SV)} {G:List SV→(β→Prop)→Prop} (h: ∀v,Ret (G v)):Ret (fun K=>zcx Γ fs ps g fun v=>G v K):=by
  induction g generalizing ps with
  |nil=>exact h _
  |cons p r ih=>obtain ⟨i,v⟩:=p;exact zi5 fun ft=>yj fun fi=>zk0 fun j b o=>zmh fun ps'=>ih
theorem zzs {fs:List (Nat×TypeId)} {F:(β→Prop)→Prop} (h:Ret F):Ret (fun K=>zlu Γ fs (F K)):=by
  induction fs with
  |nil=>exact h
  |cons p r ih=>obtain ⟨i,v⟩:=p;exact yj fun _=>ih
theorem z26 {t:TypeId} {g:List (Nat×SV)} {G:SV→(β→Prop)→Prop} (h: ∀v,Ret (G v)):Ret (fun K=>zq0 Γ t g fun v=>G v K):=by
  refine yj (G:=fun ti K=>_) fun ti=>?_
  obtain ⟨d,sz,bytes,zero,eqOk⟩:=ti
  dsimp only
  generalize zero.many=m
  cases m
  ·exact ze
  ·refine zee (G:=fun zs K=>_) fun zs=>?_
   cases d
   case struct fs=>exact zzs (zov (G:=fun ps=>G (.agg ps)) fun ps=>h _)
   case arr n e=>exact yj fun ei=>zj3 fun ps=>zv1 h
   all_goals exact ze
theorem z5w (op:Op) (tm:List (Nat×SV)):Ret (fun k=>xh Γ op tm k):=by
  have hk: ∀v:SV,Ret (fun k:SV→Prop=>k v):=fun v=>z3s v
  cases op
  case move x=>exact zac (G:=fun v k=>k v) hk
  case assign x=>exact zac (G:=fun v k=>k v) hk
  case pick c x y=>
    refine zac (G:=fun cv K=>_) fun cv=>zac (G:=fun av K=>_) fun av=>zac (G:=fun bv K=>_) fun bv=>?_
    cases cv<;>first|exact ze|exact z10 (hk _) (hk _)
  case build t ps=>exact znv fun g=>z26 hk
  case nilCheck x=>
    refine zac (G:=fun v K=>_) fun v=>?_
    cases v<;>first|exact ze|exact hk _
  case binOp op t x y t'=>exact zac fun a=>zac fun b=>z39 hk
  case unOp op t x=>exact zac fun a=>z9s hk
  case slice t x lo hi mx=>exact zac fun v=>zjb fun lo=>zjb fun hi=>zjb fun mx=>z07 hk
  case field s x f=>
    refine yj (G:=fun ti K=>_) fun ti=>?_
    obtain ⟨d,sz,bytes,zero,eqOk⟩:=ti
    cases d
    case struct fs=>
      refine zi5 (G:=fun ft K=>_) fun ft=>yj (G:=fun fi K=>_) fun fi=>zac (G:=fun v K=>_) fun v=>?_
      try dsimp only
      generalize v.many=m
      cases m
      ·exact ze
      ·exact zee fun ps=>zmg hk
    all_goals exact ze
  case indexAddr t x i=>
    refine yj (G:=fun ti K=>_) fun ti=>zac (G:=fun v K=>_) fun v=>zac (G:=fun iv K=>_) fun iv=>zmo (G:=fun ix K=>_) fun ix=>?_
    obtain ⟨d,sz,bytes,zero,eqOk⟩:=ti
    cases d
    case arr n e=>
      refine yj (G:=fun ei K=>_) fun ei=>?_
      cases v<;>first|exact ze|exact yo (hk _)
    case sl e=>
      refine yj (G:=fun ei K=>_) fun ei=>?_
      cases v<;>first|exact ze|exact yo (hk _)
    all_goals exact ze
  case index t x i=>
    refine yj (G:=fun ti K=>_) fun ti=>zac (G:=fun v K=>_) fun v=>zac (G:=fun iv K=>_) fun iv=>zmo (G:=fun ix K=>_) fun ix=>?_
    obtain ⟨d,sz,bytes,zero,eqOk⟩:=ti
    cases v
    case str l=>cases d<;>first|exact ze|exact yo (hk _)
    all_goals (cases d<;>first|exact ze|exact yj fun ei=>ze|exact yj fun ei=>yo (zkv hk))
  case makeFunc fn first caps=>
    refine zzz (G:=fun vs K=>_) fun vs=>?_
    cases fn
    case func f=>
      dsimp only
      generalize first.toList=fl
      cases fl<;>first|exact ze|exact hk _
    all_goals exact ze
  case extract x i=>
    refine zac (G:=fun v K=>_) fun v=>?_
    cases v<;>first|exact ze|exact zi5 hk
  case convert s d x=>
    refine yj (G:=fun si K=>_) fun si=>yj (G:=fun di K=>_) fun di=>?_
    obtain ⟨d,sz,bytes,zero,eqOk⟩:=di
    cases d<;>first|exact ze|exact zac fun v=>zuu hk
  case call c=>
    obtain ⟨callee,args,argTypes⟩:=c
    refine zzz (G:=fun vs K=>_) fun vs=>?_
    dsimp only
    cases callee
    case builtin b=>
      cases b
      case len=>
        dsimp only
        generalize argTypes.toList=ats
        match ats with
        | []=>exact ze
        | [t]=>
          refine yj (G:=fun ti K=>_) fun ti=>?_
          obtain ⟨d,sz,bytes,zero,eqOk⟩:=ti
          dsimp only
          cases d
          case str=>
            match vs with
            | []=>exact ze
            | [v]=>cases v<;>first|exact ze|exact hk _
            |v ::u ::r=>cases v<;>exact ze
          case sl e=>
            match vs with
            | []=>exact ze
            | [v]=>cases v<;>first|exact ze|exact hk _
            |v ::u ::r=>cases v<;>exact ze
          case arr n e=>
            match vs with
            | []=>exact ze
            | [v]=>exact hk _
            |v ::u ::r=>exact ze
          all_goals exact ze
        |_ ::_ ::_=>exact ze
      case min=>
        match vs with
        | []=>exact ze
        | [v]=>cases v<;>exact ze
        | [v,u]=>cases v<;>first|exact ze|(cases u<;>first|exact ze|exact hk _)
        | [v,u,x]=>cases v<;>first|exact ze|(cases u<;>first|exact ze|(cases x<;>first|exact ze|exact hk _))
        |v ::u ::x ::y ::r=>cases v<;>first|exact ze|(cases u<;>first|exact ze|(cases x<;>exact ze))
      case max=>
        match vs with
        | []=>exact ze
        | [v]=>cases v<;>exact ze
        | [v,u]=>cases v<;>first|exact ze|(cases u<;>first|exact ze|exact hk _)
        | [v,u,x]=>cases v<;>first|exact ze|(cases u<;>first|exact ze|(cases x<;>first|exact ze|exact hk _))
        |v ::u ::x ::y ::r=>cases v<;>first|exact ze|(cases u<;>first|exact ze|(cases x<;>exact ze))
      all_goals exact ze
    all_goals exact ze
  all_goals exact ze
theorem zww (op:Op) (tm:List (Nat×SV)) (hp:List Blk):Ret (fun k=>zdr Γ op tm hp k):=by
  have hk: ∀v:SV,Ret (fun k:SV→Prop=>k v):=fun v=>z3s v
  cases op
  case load t x=>
    refine yj (G:=fun ti K=>_) fun ti=>zac (G:=fun v K=>_) fun v=>?_
    cases v<;>first|exact ze|exact zlg fun _ ps=>zkv hk|exact z58
  case fieldAddr s x f=>
    refine yj (G:=fun ti K=>_) fun ti=>?_
    obtain ⟨d,sz,bytes,zero,eqOk⟩:=ti
    cases d
    case struct fs=>
      refine zi5 (G:=fun ft K=>_) fun ft=>yj (G:=fun fi K=>_) fun fi=>?_
      obtain ⟨d,sz,bytes,zero,eqOk⟩:=fi
      obtain ⟨c,t⟩:=ft
      cases sz
      ·exact ze
      ·refine zac (G:=fun v K=>_) fun v=>?_
       cases v
       case xptr A=>exact hk _
       case ptr k j b oo=>
         cases c
         ·exact hk _
         ·cases oo
          ·exact zlg fun _ ps=>zic fun _ r=>zk0 (G:=fun j' b' o' (K:SV→Prop)=>K (SV.ptr k j' b' o')) fun _ _ _=>hk _
          ·exact hk _
       all_goals exact ze
    all_goals exact ze
  case convert s d x=>
    refine yj (G:=fun si K=>_) fun si=>yj (G:=fun di K=>_) fun di=>?_
    obtain ⟨ds,szs,bytess,zeros,eqOks⟩:=si
    obtain ⟨d,sz,bytes,zero,eqOk⟩:=di
    cases d
    case str=>
      refine zac (G:=fun v K=>_) fun v=>?_
      cases v
      case str l=>exact hk _
      case nilsl=>
        cases ds
        case sl e=>
          refine yj (G:=fun ei K=>_) fun ei=>?_
          obtain ⟨d,sz,bytes,zero,eqOk⟩:=ei
          cases d
          case int kd=>cases kd<;>first|exact ze|exact hk _
          all_goals exact ze
        all_goals exact ze
      case sl k j b o n c=>
        cases ds
        case sl e=>
          refine yj (G:=fun ei K=>_) fun ei=>?_
          obtain ⟨d,sz,bytes,zero,eqOk⟩:=ei
          cases d
          case int kd=>cases kd<;>first|exact ze|exact z3f (G:=fun l (K:SV→Prop)=>K (SV.str l)) fun l=>hk _
          all_goals exact ze
        all_goals exact ze
      all_goals exact ze
    all_goals exact ze
  all_goals exact ze
theorem z2d (op:Op) (tm:List (Nat×SV)) (m:Nat):Ret (fun k:SV×Blk→Prop=>zbu Γ op tm m fun v b=>k (v,b)):=by
  have hk: ∀v b,Ret (fun k:SV×Blk→Prop=>k (v,b)):=fun v b=>z3s (v,b)
  cases op
  case alloc t=>exact yj fun ti=>zee fun ps=>hk _ _
  case box t x=>exact zac fun v=>zee fun ps=>hk _ _
  case buildSlice t n ps=>
    refine znv (G:=fun g K=>_) fun g=>yj (G:=fun ti K=>_) fun ti=>?_
    obtain ⟨d,sz,bytes,zero,eqOk⟩:=ti
    cases d<;>first|exact ze|exact yj fun ei=>yo (zvz fun zs=>zj3 fun ps=>hk _ _)
  case makeSlice t x y=>
    refine zac (G:=fun lv K=>_) fun lv=>zac (G:=fun cv K=>_) fun cv=>zmo (G:=fun l K=>_) fun l=>zmo (G:=fun c K=>_) fun c=>yj (G:=fun ti K=>_) fun ti=>?_
    obtain ⟨d,sz,bytes,zero,eqOk⟩:=ti
    cases d<;>first|exact ze|exact yj fun ei=>yo (zvz fun zs=>hk _ _)
  all_goals exact ze
end
end Go.Sym

namespace Go.Sym
structure PStep where
  i:Nat
  loose:List Nat
inductive LateK where
  |pure|read (M:List Nat)|maker (b:Nat)
structure Late where
  i:Nat
  o:Oper
  v:SV
  k:LateK
def znh (v u:SV) (p:Prop):Prop:=v=u∧p
attribute [irreducible] znh
theorem zb {v:SV} {p:Prop} (h:p):znh v v p:=by unfold znh;exact ⟨rfl,h⟩
theorem zlf {v u:SV} {p:Prop} (h:znh v u p):v=u∧p:=by unfold znh at h;exact h
def zbj (L:List Nat):List Late→(List Nat→Prop)→Prop
  | [],k=>k []
  |x ::xs,k=>match x.k with
   | .maker b=>match zaz L x.i with|true=>zbj L xs fun M=>k (b ::M)|false=>zbj L xs k
   |_=>zbj L xs k
def zj4:List Nat→List Blk→(List Blk→Prop)→Prop
  | [],hp,k=>k hp
  |m ::M,hp,k=>zii hp m .dead fun hp'=>zj4 M hp' k
def zes (hp:List Blk):List Nat→List Blk→(List Blk→Prop)→Prop
  | [],hp',k=>k hp'
  |m ::M,hp',k=>zdi hp m fun b=>zii hp' m b fun hp''=>zes hp M hp'' k
def zso (M:List Nat):List Nat→Bool
  | []=>true
  |x ::xs=>match zaz M x with|true=>false|false=>zso M xs
def zdy (M:List Nat) (v:SV) (p:Prop):Prop:=
  match M with
  | []=>p
  |_ ::_=>match zso M v.ks with|true=>p|false=>False
def zcz (M:List Nat):List Blk→Prop→Prop
  | [],p=>p
  |b ::bs,p=>match M with
   | []=>p
   |_ ::_=>match b with
    | .dead=>zcz M bs p
    | .mk _ ps=>match zso M (ksL ps) with|true=>zcz M bs p|false=>False
def reK (Γ:Ctx) (tm:List (Nat×SV)) (hp:List Blk) (L:List Nat):List Late→Prop→Prop
  | [],p=>p
  |x ::xs,p=>match x.k with
   | .read M=>match zaz L x.i with
     |true=>zj4 M hp fun hm=>zdr Γ x.o.op tm hm fun v=>znh v x.v (reK Γ tm hp L xs p)
     |false=>reK Γ tm hp L xs p
   |_=>reK Γ tm hp L xs p
def addM (b:Nat):List Late→List Late
  | []=> []
  |x ::xs=>(match x.k with| .read M=>⟨x.i,x.o,x.v,.read (b ::M)⟩|_=>x) ::addM b xs
def zjk (all:List Oper) (o:Oper) (tm:List (Nat×SV)) (yes no:Prop):Prop:=
  match o.guard with
  |none=>yes
  |some (j,want)=>zdi all j fun g=>match g.dst with
   |some d=>yf tm d fun v=>match v with
    | .bool t=>zv (t==want) yes no
    | .tup _=>no
    |_=>False
   |none=>False
noncomputable def zd0 (Γ:Ctx) (all:List Oper) (steps:List PStep):List Late→List (Nat×SV)→List Blk→(St→Prop)→Prop:=
  List.rec (motive:=fun _=>List Late→List (Nat×SV)→List Blk→(St→Prop)→Prop) (fun _ tm hp K=>K ⟨tm,hp⟩) (fun s _ ih late tm hp K=>zdi all s.i fun o=>zjk all o tm
    (match za1 Γ o.op with
      | .pure=>xh Γ o.op tm fun v=>zbj s.loose late fun M=>zdy M v (zcw Γ.nt tm hp o.dst v fun st=>match st with|⟨tm',hp'⟩=>ih (⟨s.i,o,v,.pure⟩ ::late) tm' hp' K)
      | .read=>zbj s.loose late fun M=>zj4 M hp fun hm=>zdr Γ o.op tm hm fun v=>zdy M v (zcw Γ.nt tm hp o.dst v fun st=>match st with|⟨tm',hp'⟩=>ih (⟨s.i,o,v,.read M⟩ ::late) tm' hp' K)
      | .maker=>zbj s.loose late fun M=>zi1 hp fun n=>zbu Γ o.op tm n fun v b=>match b with
        | .mk el ps=>zdy M (.agg ps) (ze0 hp (.mk el ps) fun hp1=>zcw Γ.nt tm hp1 o.dst v fun st=>match st with|⟨tm',hp'⟩=>ih (⟨s.i,o,v,.maker n⟩ ::addM n late) tm' hp' K)
        | .dead=>False
      | .anchor=>zbj s.loose late fun M=>zj4 M hp fun hm=>zbf Γ o.op tm hm
          (fun v hp1=>zdy M v (zcz M hp1 (zes hp M hp1 fun hp2=>zcw Γ.nt tm hp2 o.dst v fun st=>match st with|⟨tm',hp'⟩=>reK Γ tm' hp' s.loose late (ih late tm' hp' K))))
          (fun hp1=>zcz M hp1 (zes hp M hp1 fun hp2=>match o.dst with
            |none=>reK Γ tm hp2 s.loose late (ih late tm hp2 K)
            |some _=>False)))
    (zcw Γ.nt tm hp o.dst (.tup []) fun st=>match st with|⟨tm',hp'⟩=>ih (⟨s.i,o,.tup [],.pure⟩ ::late) tm' hp' K)) steps
theorem zxm (Γ:Ctx) (all:List Oper) (s:PStep) (ss:List PStep) (late:List Late) (tm:List (Nat×SV)) (hp:List Blk) (K:St→Prop):zd0 Γ all (s ::ss) late tm hp K=zdi all s.i fun o=>zjk all o tm
    (match za1 Γ o.op with
      | .pure=>xh Γ o.op tm fun v=>zbj s.loose late fun M=>zdy M v (zcw Γ.nt tm hp o.dst v fun st=>match st with|⟨tm',hp'⟩=>zd0 Γ all ss (⟨s.i,o,v,.pure⟩ ::late) tm' hp' K)
      | .read=>zbj s.loose late fun M=>zj4 M hp fun hm=>zdr Γ o.op tm hm fun v=>zdy M v (zcw Γ.nt tm hp o.dst v fun st=>match st with|⟨tm',hp'⟩=>zd0 Γ all ss (⟨s.i,o,v,.read M⟩ ::late) tm' hp' K)
      | .maker=>zbj s.loose late fun M=>zi1 hp fun n=>zbu Γ o.op tm n fun v b=>match b with
        | .mk el ps=>zdy M (.agg ps) (ze0 hp (.mk el ps) fun hp1=>zcw Γ.nt tm hp1 o.dst v fun st=>match st with|⟨tm',hp'⟩=>zd0 Γ all ss (⟨s.i,o,v,.maker n⟩ ::addM n late) tm' hp' K)
        | .dead=>False
      | .anchor=>zbj s.loose late fun M=>zj4 M hp fun hm=>zbf Γ o.op tm hm
          (fun v hp1=>zdy M v (zcz M hp1 (zes hp M hp1 fun hp2=>zcw Γ.nt tm hp2 o.dst v fun st=>match st with|⟨tm',hp'⟩=>reK Γ tm' hp' s.loose late (zd0 Γ all ss late tm' hp' K))))
          (fun hp1=>zcz M hp1 (zes hp M hp1 fun hp2=>match o.dst with
            |none=>reK Γ tm hp2 s.loose late (zd0 Γ all ss late tm hp2 K)
            |some _=>False)))
    (zcw Γ.nt tm hp o.dst (.tup []) fun st=>match st with|⟨tm',hp'⟩=>zd0 Γ all ss (⟨s.i,o,.tup [],.pure⟩ ::late) tm' hp' K):=rfl
def xk (o:Oper):List Nat:=(o.after.toList.filter (Region.binds .any)).map (·.on)
abbrev Table:=List (Nat×Nat)
def zoc (T:Table) (i:Nat):Nat:=
  match T with
  | []=>0
  |(j,m) ::r=>if Nat.beq j i then m else zoc r i
def zdx (T:Table):List Nat→Nat
  | []=>0
  |e ::es=>(Nat.lor (Nat.lor (Nat.shiftLeft 1 e) (zoc T e)) (zdx T es))
def zo5 (ops:Array Oper) (s:PStep) (o:Oper) (m:Nat):List PStep→Bool
  | []=>true
  |x ::xs=>(match zaz s.loose x.i with
     |true=>match ops[x.i]? with|some y=>y.apart ops o|none=>false
     |false=>Nat.testBit m x.i)&&zo5 ops s o m xs
def zjz (ops:Array Oper) (Γ:Ctx) (L:List Nat):List PStep→List (Option Nat)→Bool
  | [],_=>true
  |x ::xs,ds=>(match ops[x.i]? with
     |some y=>(match za1 Γ y.op,zaz L x.i with
      | .read,true=>(y.dst ::ds).all fun d=>match d with|some d=>!(y.looksAt ops).contains d|none=>true
      |_,_=>true)&&zjz ops Γ L xs (y.dst ::ds)
     |none=>false)
def zqh (i:Nat):List PStep→Bool
  | []=>false
  |x ::xs=>Nat.beq x.i i||zqh i xs
def zdj (ops:Array Oper) (Γ:Ctx):List PStep→List PStep→Table→Bool
  |_,[],_=>true
  |pre,s ::ss,T=>match ops[s.i]? with
   |none=>false
   |some o=>
    let m:=zdx T (xk o)
    !zqh s.i pre&&(xk o).all (fun e=>zqh e pre)&&zo5 ops s o m pre&&
    (match za1 Γ o.op with
      | .anchor=>ss.all (fun t=>match ops[t.i]? with|some u=>(xk u).any fun e=>!zqh e pre|none=>false)&&zjz ops Γ s.loose pre [o.dst]
      |_=>true)&&zdj ops Γ (s ::pre) ss ((s.i,m) ::T)
def zjp (ops:Array Oper) (Γ:Ctx) (steps:List PStep):Bool:=
  Region.noSelect ops&&(List.range ops.size).all (fun i=>zqh i steps)&&zdj ops Γ [] steps []
end Go.Sym
