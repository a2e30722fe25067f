/-
  Contracts of functions of the program, each said of symbolic values, and plain laws; no condition beyond each statement's own.
-/
import Derived.Test.YtmmpgjcpielefaaGreatGLRecActs10
set_option linter.unusedSimpArgs false
set_option linter.unusedVariables false
namespace Go.Sym
def Ret {α:Type} (F:(α→Prop)→Prop):Prop:= ∀k,F k→ ∃x,k x∧ ∀k':α→Prop,k' x→F k'
theorem z4a {α:Type} (x:α):Ret (fun k=>k x):=fun _ h=>⟨x,h,fun _ h=>h⟩
theorem zh {α:Type}:Ret (fun _:α→Prop=>False):=fun _ h=>h.elim
theorem yt {α:Type} {p:Prop} {F:(α→Prop)→Prop} (h:Ret F):Ret (fun k=>Pre p (F k)):=fun k hk=>by
  obtain ⟨h1,h2⟩:=zn hk
  obtain ⟨x,h3,h4⟩:=h k h2
  exact ⟨x,h3,fun k' h=>zr h1 (h4 k' h)⟩
theorem yad {R:SV→Prop}:Ret (fun k:SV→Prop=>zpd R k):=fun k hk=>by
  obtain ⟨v,h1,h2⟩:=yc3 hk
  exact ⟨v,h2,fun k' h=>zdc v h1 h⟩
theorem z57 {α:Type} {t:Bool} {F G:(α→Prop)→Prop} (h:Ret F) (h':Ret G):Ret (fun k=>zx t (F k) (G k)):=fun k hk=>by
  obtain ⟨h1,h2⟩:=zw hk
  cases t with
  |true=>
   obtain ⟨x,h3,h4⟩:=h k (h1 rfl)
   exact ⟨x,h3,fun k' h=>zj rfl (h4 k' h)⟩
  |false=>
   obtain ⟨x,h3,h4⟩:=h' k (h2 rfl)
   exact ⟨x,h3,fun k' h=>zk rfl (h4 k' h)⟩
section
variable {β:Type}
theorem zlb {α:Type} {a b:List α} {G:List α→(β→Prop)→Prop} (h: ∀l,Ret (G l)):Ret (fun k=>zek a b fun l=>G l k):=by
  induction a generalizing G with
  |nil=>exact h _
  |cons y ys ih=>exact ih (G:=fun l=>G (y ::l)) fun l=>h _
theorem yc9 {α:Type} {l:List α} {i:Nat} {x:α} {G:List α→(β→Prop)→Prop} (h: ∀l,Ret (G l)):Ret (fun k=>zj5 l i x fun l=>G l k):=by
  induction l generalizing G i with
  |nil=>exact zh
  |cons y ys ih=>
   cases i with
   |zero=>exact h _
   |succ i=>exact ih (G:=fun l=>G (y ::l)) fun l=>h _
theorem zl7 {α:Type} {l:List α} {i:Nat} {G:α→(β→Prop)→Prop} (h: ∀x,Ret (G x)):Ret (fun k=>ze7 l i fun x=>G x k):=by
  induction l generalizing i with
  |nil=>exact zh
  |cons y ys ih=>
   cases i with
   |zero=>exact h _
   |succ i=>exact ih
theorem yp {α:Type} {l:List (Nat×α)} {n:Nat} {G:α→(β→Prop)→Prop} (h: ∀x,Ret (G x)):Ret (fun k=>yn l n fun x=>G x k):=by
  induction l with
  |nil=>exact zh
  |cons p r ih=>
   obtain ⟨i,v⟩:=p
   simp only [yn]
   generalize Nat.beq i n=t
   cases t
   ·exact ih
   ·exact h _
theorem z6a {v:Value} {G:SV→(β→Prop)→Prop} (h: ∀x,Ret (G x)):Ret (fun k=>zpx v fun x=>G x k):=by
  intro k hk
  unfold zpx at hk ⊢
  split at hk
  case h_12=>exact hk.elim
  all_goals (try split at hk)
  all_goals first
    |exact hk.elim
    |exact h _ k hk
    |(rename_i e;simp only [e];exact h _ k hk)
theorem zaw {tm:List (Nat×SV)} {x:Operand} {G:SV→(β→Prop)→Prop} (h: ∀x,Ret (G x)):Ret (fun k=>evK tm x fun x=>G x k):=by
  cases x with
  |tmp t=>exact yp h
  |const v=>exact z6a h
  |func f=>exact h _
  |global g=>exact zh
theorem z44 {tm:List (Nat×SV)} {xs:List Operand} {G:List SV→(β→Prop)→Prop} (h: ∀x,Ret (G x)):Ret (fun k=>z3f tm xs fun x=>G x k):=by
  induction xs generalizing G with
  |nil=>exact h _
  |cons x xs ih=>exact zaw fun v=>ih (G:=fun vs=>G (v ::vs)) fun vs=>h _
theorem zq5 {tm:List (Nat×SV)} {xs:List (Nat×Operand)} {G:List (Nat×SV)→(β→Prop)→Prop} (h: ∀x,Ret (G x)):Ret (fun k=>zkr tm xs fun x=>G x k):=by
  induction xs generalizing G with
  |nil=>exact h _
  |cons x xs ih=>
   obtain ⟨i,x⟩:=x
   exact zaw fun v=>ih (G:=fun vs=>G ((i,v) ::vs)) fun vs=>h _
theorem zod {v:SV} {G:Nat→(β→Prop)→Prop} (h: ∀x,Ret (G x)):Ret (fun k=>zw6 v fun x=>G x k):=by
  cases v<;>first|exact zh|exact h _|exact yt (h _)
theorem zug {v:SV} {G:Nat→(β→Prop)→Prop} (h: ∀x,Ret (G x)):Ret (fun k=>z8j v fun x=>G x k):=by
  cases v<;>first|exact zh|exact h _|exact yt (h _)
theorem zme {tm:List (Nat×SV)} {x:Option Operand} {G:Option Nat→(β→Prop)→Prop} (h: ∀x,Ret (G x)):Ret (fun k=>zic tm x fun x=>G x k):=by
  cases x with
  |none=>exact h _
  |some x=>exact zaw fun v=>zod (G:=fun n=>G (some n)) fun n=>h _
theorem zj9 {ps:List SV} {j b:Nat} {G:List SV→List SV→(β→Prop)→Prop} (h: ∀a r,Ret (G a r)):Ret (fun k=>zci ps j b fun a r=>G a r k):=by
  induction ps generalizing j b G with
  |nil=>
   cases j with
   |zero=>
    simp only [zci]
    generalize Nat.beq b 0=t
    cases t
    ·exact zh
    ·exact h _ _
   |succ j=>exact zh
  |cons p ps ih=>
   cases j with
   |zero=>
    simp only [zci]
    generalize Nat.beq b 0=t
    cases t
    ·exact zh
    ·exact h _ _
   |succ j=>
    simp only [zci]
    generalize Nat.ble p.size b=t
    cases t
    ·exact zh
    ·exact ih (G:=fun a r=>G (p ::a) r) fun a r=>h _ _
theorem z1u {ps:List SV} {n:Nat} {G:List SV→List SV→(β→Prop)→Prop} (h: ∀a r,Ret (G a r)):Ret (fun k=>zh6 ps n fun a r=>G a r k):=by
  induction ps generalizing n G with
  |nil=>
   cases n with
   |zero=>exact h _ _
   |succ n=>exact zh
  |cons p ps ih=>
   cases n with
   |zero=>exact h _ _
   |succ n=>
    simp only [zh6]
    generalize Nat.ble p.size (n+1)=t
    cases t
    ·exact zh
    ·exact ih (G:=fun a r=>G (p ::a) r) fun a r=>h _ _
theorem z01 {ps:List SV} {G:SV→(β→Prop)→Prop} (h: ∀v,Ret (G v)):Ret (fun k=>zj4 ps fun v=>G v k):=by
  match ps with
  | []=>exact h _
  | [p]=>
    simp only [zj4]
    generalize p.isRow=t
    cases t
    ·exact h _
    ·exact h _
  |p ::q ::r=>exact h _
theorem zne {ps:List SV} {j b c:Nat} {G:Nat→Nat→List (Nat×Nat)→(β→Prop)→Prop} (h: ∀a b c,Ret (G a b c)):Ret (fun k=>zg1 ps j b c fun x y z=>G x y z k):=by
  induction ps generalizing j b c with
  |nil=>
   cases c with
   |zero=>exact h _ _ _
   |succ c=>exact zh
  |cons p ps ih=>
   cases c with
   |zero=>exact h _ _ _
   |succ c=>
    simp only [zg1]
    generalize Nat.ble p.size (c+1)=t
    cases t
    ·generalize p.isRow=t
     cases t
     ·exact zh
     ·exact h _ _ _
    ·exact ih
theorem yeu:
    (∀v:SV,∀(G:List SV→(β→Prop)→Prop),(∀l,Ret (G l))→Ret (fun k=>zcm v fun l=>G l k))∧
    (∀vs:List SV,∀(G:List SV→(β→Prop)→Prop),(∀l,Ret (G l))→Ret (fun k=>zfy vs fun l=>G l k)):=by
  have one: ∀v:SV,∀(G:List SV→(β→Prop)→Prop),(∀l,Ret (G l))→Ret (fun k=>zcm v fun l=>G l k):=fun v=>by
    refine SV.rec (motive_1:=fun v=> ∀(G:List SV→(β→Prop)→Prop),(∀l,Ret (G l))→Ret (fun k=>zcm v fun l=>G l k))
      (motive_2:=fun vs=> ∀(G:List SV→(β→Prop)→Prop),(∀l,Ret (G l))→Ret (fun k=>zfy vs fun l=>G l k))
      ?_ ?_ ?_ ?_ ?_ ?_ ?_ ?_ ?_ ?_ ?_ ?_ ?_ ?_ ?_ ?_ ?_ ?_ ?_ ?_ ?_ ?_ ?_ ?_ ?_ ?_ ?_ v
    case refine_22=>intro ps ih G h;exact ih G h
    case refine_26=>intro G h;exact h _
    case refine_27=>
      intro v vs ihv ihs G h
      exact ihv (fun a k=>zfy vs fun b=>zek a b fun l=>G l k) fun a=>ihs (fun b k=>zek a b fun l=>G l k) fun b=>zlb h
    all_goals (intros;rename_i h;exact h _)
  refine ⟨one,fun vs=>?_⟩
  induction vs with
  |nil=>intro G h;exact h _
  |cons v vs ih=>
   intro G h
   exact one v (fun a k=>zfy vs fun b=>zek a b fun l=>G l k) fun a=>ih (fun b k=>zek a b fun l=>G l k) fun b=>zlb h
theorem zfp {v:SV} {G:List SV→(β→Prop)→Prop} (h: ∀l,Ret (G l)):Ret (fun k=>zcm v fun l=>G l k):=yeu.1 v G h
theorem zsv {o:List (Nat×Nat)} {es:Nat} {G:Nat→Nat→(β→Prop)→Prop} (h: ∀i c,Ret (G i c)):Ret (fun k=>zmc o es fun i c=>G i c k):=by
  match o with
  | []=>exact h _ _
  | [(i,e)]=>
    simp only [zmc]
    generalize Nat.beq e es=t
    cases t
    ·exact zh
    ·exact h _ _
  | [(i,e),(c,1)]=>
    simp only [zmc]
    generalize Nat.beq e es=t
    cases t
    ·exact zh
    ·exact h _ _
  | [(i,e),(c,0)]=>exact zh
  | [(i,e),(c,n+2)]=>exact zh
  |x ::(c,n) ::z ::r=>simp only [zmc];exact zh
theorem ycv {a:At} {G:SV→(β→Prop)→Prop} (h: ∀v,Ret (G v)):Ret (fun k=>atK a fun v=>G v k):=by
  cases a<;>exact h _
theorem yez {as:List At} {G:List SV→(β→Prop)→Prop} (h: ∀v,Ret (G v)):Ret (fun k=>yak as fun v=>G v k):=by
  induction as generalizing G with
  |nil=>exact h _
  |cons a as ih=>exact ycv fun v=>ih (G:=fun vs=>G (v ::vs)) fun vs=>h _
theorem yb2 {α:Type} {l:List α} {n:Nat} {G:List α→(β→Prop)→Prop} (h: ∀v,Ret (G v)):Ret (fun k=>z1c l n fun v=>G v k):=by
  induction l generalizing n with
  |nil=>
   cases n with
   |zero=>exact h _
   |succ n=>exact zh
  |cons x xs ih=>
   cases n with
   |zero=>exact h _
   |succ n=>exact ih
theorem z6h {α:Type} {l:List α} {n:Nat} {G:List α→(β→Prop)→Prop} (h: ∀v,Ret (G v)):Ret (fun k=>zus l n fun v=>G v k):=by
  induction l generalizing n G with
  |nil=>
   cases n with
   |zero=>exact h _
   |succ n=>exact zh
  |cons x xs ih=>
   cases n with
   |zero=>exact h _
   |succ n=>exact ih (G:=fun l=>G (x ::l)) fun l=>h _
theorem yaz {p:SV} {o:List (Nat×Nat)} {G:SV→(β→Prop)→Prop} (h: ∀v,Ret (G v)):Ret (fun k=>zqc p o fun v=>G v k):=by
  cases p
  case tab n es f=>dsimp only [zqc];exact zsv fun i c=>yt (zl7 fun a=>ycv h)
  all_goals first
    |exact zh
    |exact yt (h _)
    |(cases o<;>first|exact h _|exact zh)
theorem yfk {p:SV} {o:List (Nat×Nat)} {m:Nat} {G:SV→(β→Prop)→Prop} (h: ∀v,Ret (G v)):Ret (fun k=>zvg p o m fun v=>G v k):=by
  cases p
  case tab n es f=>dsimp only [zvg];exact zsv fun i c=>yt (yb2 fun r=>z6h fun as=>yez (G:=fun vs=>G (.agg vs)) fun vs=>h _)
  all_goals first
    |exact zh
    |exact yt (h _)
theorem znn {ti:TyI} {ps:List SV} {j b:Nat} {o:List (Nat×Nat)} {G:SV→(β→Prop)→Prop} (h: ∀v,Ret (G v)):Ret (fun k=>zok ti ps j b o fun v=>G v k):=by
  obtain ⟨d,sz,bytes,zero,eqOk⟩:=ti
  refine zj9 (G:=fun _ r k=>match (generalizing:=false) d with
    | .arr .. | .struct .. =>match (generalizing:=false) o with
      | []=>zh6 r sz fun a _=>zj4 a fun v=>G v k
      |_=>match (generalizing:=false) r with|p ::_=>zvg p o sz fun v=>G v k| []=>False
    |_=>match (generalizing:=false) r with|p ::_=>zqc p o (fun v=>G v k)| []=>False) fun a r=>?_
  have s:Ret (fun k=>match (generalizing:=false) r with|p ::_=>zqc p o (fun v=>G v k)| []=>False):=by
    cases r
    ·exact zh
    ·exact yaz h
  have t:Ret (fun k=>match (generalizing:=false) o with
   | []=>zh6 r sz fun a _=>zj4 a fun v=>G v k
   |_=>match (generalizing:=false) r with|p ::_=>zvg p o sz fun v=>G v k| []=>False):=by
    cases o with
    |nil=>exact z1u fun a _=>z01 h
    |cons x o=>
     cases r
     ·exact zh
     ·exact yfk h
  cases d<;>first|exact s|exact t
theorem ybo {vs:List SV} {G:List UInt64→(β→Prop)→Prop} (h: ∀v,Ret (G v)):Ret (fun k=>zvv vs fun v=>G v k):=by
  induction vs generalizing G with
  |nil=>exact h _
  |cons v vs ih=>cases v<;>first|exact zh|exact ih (G:=fun l=>G (_ ::l)) fun l=>h _
theorem z1t {v:SV} {G:At→(β→Prop)→Prop} (h: ∀v,Ret (G v)):Ret (fun k=>zrx v fun v=>G v k):=by
  cases v<;>first|exact zh|exact h _
theorem zva {vs:List SV} {G:List At→(β→Prop)→Prop} (h: ∀v,Ret (G v)):Ret (fun k=>zl0 vs fun v=>G v k):=by
  induction vs generalizing G with
  |nil=>exact h _
  |cons v vs ih=>exact z1t fun a=>ih (G:=fun as=>G (a ::as)) fun l=>h _
theorem zu7 {p:SV} {o:List (Nat×Nat)} {v:SV} {G:SV→(β→Prop)→Prop} (h: ∀v,Ret (G v)):Ret (fun k=>zf1 p o v fun v=>G v k):=by
  have plain:Ret (fun k=>match (generalizing:=false) o with
    | []=>match (generalizing:=false) v.scalar with|true=>G v k|false=>False
    |_=>False):=by
    cases o with
    |nil=>
     generalize v.scalar=t
     cases t
     ·exact zh
     ·exact h _
    |cons x o=>exact zh
  cases p
  case tab n es f=>
    have one:Ret (fun k=>zrx v fun a=>zmc o es fun i c=>Pre (i<n) (zj5 (f i) c a fun r=>G (.tab n es (zgx f i r)) k)):=
      z1t fun a=>zsv fun i c=>yt (yc9 (G:=fun r=>G (.tab n es (zgx f i r))) fun r=>h _)
    cases v
    case agg vs=>
      refine zva (G:=fun as k=>zmc o es fun i c=>match (generalizing:=false) c with
        |0=>Pre (i<n∧as.length=es) (G (.tab n es (zgx f i as)) k)
        |_=>False) fun as=>zsv (G:=fun i c k=>match (generalizing:=false) c with
        |0=>Pre (i<n∧as.length=es) (G (.tab n es (zgx f i as)) k)
        |_=>False) fun i c=>?_
      cases c
      ·exact yt (h _)
      ·exact zh
    all_goals exact one
  case arr8 n l=>cases v<;>first|exact zh|exact yt (h _)
  case arr32 n l=>cases v<;>first|exact zh|exact yt (h _)
  case arr64 n l=>cases v<;>first|exact zh|exact yt (h _)|exact ybo fun x=>yt (h _)
  case arri n l=>cases v<;>first|exact zh|exact yt (h _)
  case arrs n l=>cases v<;>first|exact zh|exact yt (h _)
  case agg ps=>exact zh
  case tup ps=>exact zh
  all_goals (cases o<;>first|exact zh|(dsimp only [zf1];exact plain))
theorem zoy {ti:TyI} {ps:List SV} {j b:Nat} {o:List (Nat×Nat)} {v:SV} {G:List SV→(β→Prop)→Prop} (h: ∀v,Ret (G v)):Ret (fun k=>zfs ti ps j b o v fun v=>G v k):=by
  unfold zfs
  refine zj9 (G:=fun a r k=>match (generalizing:=false) o with
    | []=>match (generalizing:=false) v.many with
      |true=>zh6 r ti.sz fun _ r'=>zcm v fun fs=>match (generalizing:=false) Nat.beq (yc fs) ti.sz with|true=>(match (generalizing:=false) zje fs with|true=>zek fs r' fun q=>zek a q fun v=>G v k|false=>False)|false=>False
      |false=>match (generalizing:=false) Nat.beq ti.sz 1 with
       |true=>match (generalizing:=false) r with|p ::r'=>zf1 p [] v fun p'=>zek a (p' ::r') fun v=>G v k| []=>False
       |false=>False
    |_=>match (generalizing:=false) Nat.beq v.size ti.sz with
     |true=>match (generalizing:=false) r with|p ::r'=>zf1 p o v fun p'=>zek a (p' ::r') fun v=>G v k| []=>False
     |false=>False) fun a r=>?_
  cases o with
  |nil=>
   generalize v.many=t
   cases t
   ·generalize Nat.beq ti.sz 1=t
    cases t
    ·exact zh
    ·cases r with
     |nil=>exact zh
     |cons p r'=>exact zu7 fun p'=>zlb h
   ·refine z1u fun _ r'=>zfp (G:=fun fs k=>match (generalizing:=false) Nat.beq (yc fs) ti.sz with|true=>(match (generalizing:=false) zje fs with|true=>zek fs r' fun q=>zek a q fun v=>G v k|false=>False)|false=>False) fun fs=>?_
    generalize Nat.beq (yc fs) ti.sz=t
    cases t
    ·exact zh
    ·generalize zje fs=t
     cases t
     ·exact zh
     ·exact zlb fun q=>zlb h
  |cons x o=>
   dsimp only
   generalize Nat.beq v.size ti.sz=t
   cases t
   ·exact zh
   ·cases r with
    |nil=>exact zh
    |cons p r'=>exact zu7 fun p'=>zlb h
theorem ye7 {op:BinOp} {a b:Int} {G:SV→(β→Prop)→Prop} (h: ∀v,Ret (G v)):Ret (fun k=>yb0 op a b fun v=>G v k):=by
  cases op<;>first|exact zh|exact h _|exact yt (h _)
theorem yha {op:BinOp} {a b:UInt8} {G:SV→(β→Prop)→Prop} (h: ∀v,Ret (G v)):Ret (fun k=>u8K op a b fun v=>G v k):=by
  cases op<;>first|exact zh|exact h _|exact yt (h _)
theorem ydj {op:BinOp} {a b:UInt16} {G:SV→(β→Prop)→Prop} (h: ∀v,Ret (G v)):Ret (fun k=>yag op a b fun v=>G v k):=by
  cases op<;>first|exact zh|exact h _|exact yt (h _)
theorem yfb {op:BinOp} {a b:UInt32} {G:SV→(β→Prop)→Prop} (h: ∀v,Ret (G v)):Ret (fun k=>z90 op a b fun v=>G v k):=by
  cases op<;>first|exact zh|exact h _|exact yt (h _)
theorem ydd {op:BinOp} {a b:UInt64} {G:SV→(β→Prop)→Prop} (h: ∀v,Ret (G v)):Ret (fun k=>z98 op a b fun v=>G v k):=by
  cases op<;>first|exact zh|exact h _|exact yt (h _)
theorem yfh {op:BinOp} {a b:List UInt8} {G:SV→(β→Prop)→Prop} (h: ∀v,Ret (G v)):Ret (fun k=>ych op a b fun v=>G v k):=by
  cases op<;>first|exact zh|exact h _|exact yt (h _)
theorem yet {x y:SV} {G:SV→(β→Prop)→Prop} (h: ∀v,Ret (G v)):Ret (fun k=>ybj x y fun v=>G v k):=by
  cases x<;>first
    |exact zug fun n=>yt (h _)
    |exact zug fun n=>zh
theorem yej {x y:SV} {G:SV→(β→Prop)→Prop} (h: ∀v,Ret (G v)):Ret (fun k=>ybb x y fun v=>G v k):=by
  cases x<;>first
    |exact zug fun n=>yt (h _)
    |exact zug fun n=>zh
theorem yd0 {op:BinOp} {x y:SV} {G:SV→(β→Prop)→Prop} (h: ∀v,Ret (G v)):Ret (fun k=>z11 op x y fun v=>G v k):=by
  cases op
  case shl=>exact yet h
  case shr=>exact yej h
  all_goals
    cases x<;>first
      |exact zh
      |(cases y<;>dsimp only [z11]<;>first|exact zh|exact ye7 h|exact yha h|exact ydj h|exact yfb h|exact ydd h|exact yfh h)
theorem ygt {op:UnOp} {x:SV} {G:SV→(β→Prop)→Prop} (h: ∀v,Ret (G v)):Ret (fun k=>unK op x fun v=>G v k):=by
  cases op<;>cases x<;>first|exact zh|exact h _|exact yt (h _)
theorem zzi {d:IntKind} {x:SV} {G:SV→(β→Prop)→Prop} (h: ∀v,Ret (G v)):Ret (fun k=>zgz d x fun v=>G v k):=by
  cases d<;>cases x<;>first|exact zh|exact h _|exact yt (h _)
end
end Go.Sym

namespace Go.Sym
section
variable {β:Type} {Γ:Ctx}
theorem zo7 {hp:List Blk} {n:Nat} {G:TypeId→List SV→(β→Prop)→Prop} (h: ∀a b,Ret (G a b)):Ret (fun k=>zee hp n fun a b=>G a b k):=by
  refine zl7 (G:=fun (b:Blk) k=>match (generalizing:=false) b with| .mk el ps=>G el ps k| .dead=>False) fun b=>?_
  cases b
  ·exact h _ _
  ·exact zh
theorem yel {hp:List Blk} {n j b:Nat} {G:SV→(β→Prop)→Prop} (h: ∀v,Ret (G v)):Ret (fun k=>z9a hp n j b fun v=>G v k):=by
  refine zo7 fun _ ps=>zj9 (G:=fun _ r k=>match (generalizing:=false) r with|p ::_=>G p k| []=>False) fun _ r=>?_
  cases r
  ·exact zh
  ·exact h _
theorem z75 {hp:List Blk} {v:SV} {G:List UInt8→(β→Prop)→Prop} (h: ∀v,Ret (G v)):Ret (fun k=>zi7 hp v fun v=>G v k):=by
  cases v
  case sl k j b o n c=>
    refine yel (G:=fun p k=>match (generalizing:=false) p with
      | .arr8 _ l=>Pre (off o+n≤l.length) (G ((l.drop (off o)).take n) k)
      |_=>False) fun p=>?_
    cases p<;>first|exact zh|exact yt (h _)
  all_goals first|exact zh|exact h _
theorem zn9 {fi:TyI} {ps:List SV} {c:Nat} {G:SV→(β→Prop)→Prop} (h: ∀v,Ret (G v)):Ret (fun k=>zh0 fi ps c fun v=>G v k):=by
  cases c with
  |zero=>dsimp only [zh0];exact znn h
  |succ c=>dsimp only [zh0];exact zne fun j b o=>znn h
theorem ylj (f:Nat):(∀(t:TypeId) (x y:SV) (G:Bool→(β→Prop)→Prop),(∀v,Ret (G v))→Ret (fun k=>eqK Γ f t x y fun v=>G v k))∧
    (∀(fs:List (Nat×TypeId)) (xs ys:List SV) (G:Bool→(β→Prop)→Prop),(∀v,Ret (G v))→Ret (fun k=>zob Γ f fs xs ys fun v=>G v k)):=by
  induction f with
  |zero=>exact ⟨fun t x y G h=>by simp only [eqK];exact zh,fun fs xs ys G h=>by simp only [zob];exact zh⟩
  |succ f ih=>
   refine ⟨fun t x y G h=>?_,fun fs xs ys G h=>?_⟩
   ·intro k hk
    simp only [eqK] at hk ⊢
    revert k
    refine yp (G:=fun ti k=>_) fun ti=>?_
    obtain ⟨d,sz,bytes,zero,eqOk⟩:=ti
    dsimp only
    cases d
    case int kd=>cases kd<;>first|exact zh|(cases x<;>first|exact zh|(cases y<;>first|exact zh|exact h _))
    case arr n e=>
      refine yp (G:=fun ei k=>_) fun ei=>?_
      obtain ⟨d,sz,bytes,zero,eqOk⟩:=ei
      dsimp only
      cases d
      case int kd=>
        cases kd<;>first
          |exact zh
          |(cases x<;>first
             |exact zh
             |(cases y<;>first
                |exact zh
                |(rename_i m a m' b
                  dsimp only
                  generalize Nat.beq m n=t
                  generalize Nat.beq m' n=t'
                  cases t
                  ·exact zh
                  ·cases t'
                   ·exact zh
                   ·exact h _)))
      all_goals exact zh
    case struct fs=>
      cases eqOk
      ·exact zh
      ·dsimp only
       generalize x.many=t
       generalize y.many=t'
       cases t
       ·exact zh
       ·cases t'
        ·exact zh
        ·exact zfp fun xs=>zfp fun ys=>ih.2 _ _ _ _ h
    all_goals first|exact zh|(cases x<;>first|exact zh|(cases y<;>first|exact zh|exact h _))
   ·cases fs with
    |nil=>simp only [zob];exact h _
    |cons p fs=>
     obtain ⟨c,t⟩:=p
     simp only [zob]
     exact yp fun ti=>zn9 fun a=>zn9 fun b=>ih.1 _ _ _ (fun r k=>zob Γ f fs xs ys fun r'=>G (r&&r') k) fun r=>ih.2 _ _ _ (fun r' k=>G (r&&r') k) fun r'=>h _
theorem ycq {f:Nat} {t:TypeId} {x y:SV} {G:Bool→(β→Prop)→Prop} (h: ∀v,Ret (G v)):Ret (fun k=>eqK Γ f t x y fun v=>G v k):=(ylj f).1 t x y G h
theorem z9v {op:BinOp} {t:TypeId} {x y:SV} {G:SV→(β→Prop)→Prop} (h: ∀v,Ret (G v)):Ret (fun k=>z0t Γ op t x y fun v=>G v k):=by
  have go: ∀(g:Bool→SV),Ret (fun k=>match (generalizing:=false) x.many with
   |true=>yn Γ.ty t fun ti=>match (generalizing:=false) ti.eqOk with|true=>eqK Γ 60 t x y (fun r=>G (g r) k)|false=>False
   |false=>eqK Γ 60 t x y (fun r=>G (g r) k)):=fun g=>by
    generalize x.many=m
    cases m
    ·exact ycq (G:=fun r=>G (g r)) fun r=>h _
    ·refine yp (G:=fun (ti:TyI) k=>match (generalizing:=false) ti.eqOk with|true=>eqK Γ 60 t x y (fun r=>G (g r) k)|false=>False) fun ti=>?_
     generalize ti.eqOk=q
     cases q
     ·exact zh
     ·exact ycq (G:=fun r=>G (g r)) fun r=>h _
  have big:Ret (fun k=>match (generalizing:=false) op with
    | .eql=>match (generalizing:=false) x.many with
      |true=>yn Γ.ty t fun ti=>match (generalizing:=false) ti.eqOk with|true=>eqK Γ 60 t x y (fun r=>G (.bool r) k)|false=>False
      |false=>eqK Γ 60 t x y (fun r=>G (.bool r) k)
    | .neq=>match (generalizing:=false) x.many with
      |true=>yn Γ.ty t fun ti=>match (generalizing:=false) ti.eqOk with|true=>eqK Γ 60 t x y (fun r=>G (.bool (!r)) k)|false=>False
      |false=>eqK Γ 60 t x y (fun r=>G (.bool (!r)) k)
    |_=>False):=by
    cases op<;>first|exact zh|exact go (fun r=> .bool r)|exact go (fun r=> .bool (!r))
  cases x<;>first|exact yd0 h|exact big
theorem z5d {l:List UInt8} {lo hi:Option Nat} {G:SV→(β→Prop)→Prop} (h: ∀v,Ret (G v)):Ret (fun k=>zx5 l lo hi fun v=>G v k):=by
  cases lo<;>cases hi<;>first|exact h _|exact yt (h _)
theorem zu5 {k j b:Nat} {o:List (Nat×Nat)} {n c es:Nat} {lo hi mx:Option Nat} {G:SV→(β→Prop)→Prop} (h: ∀v,Ret (G v)):Ret (fun K=>zny k j b o n c es lo hi mx fun v=>G v K):=by
  cases lo<;>cases hi<;>cases mx<;>first|exact zh|exact h _|exact yt (h _)|exact yt (yt (h _))
theorem z59 {t:TypeId} {x:SV} {lo hi mx:Option Nat} {G:SV→(β→Prop)→Prop} (h: ∀v,Ret (G v)):Ret (fun K=>ztv Γ t x lo hi mx fun v=>G v K):=by
  cases x
  case str l=>
    refine yp (G:=fun ti K=>_) fun ti=>?_
    obtain ⟨d,sz,bytes,zero,eqOk⟩:=ti
    cases d<;>first|exact zh|(cases mx<;>first|exact zh|exact z5d h)
  case nilsl=>
    refine yp (G:=fun ti K=>_) fun ti=>?_
    obtain ⟨d,sz,bytes,zero,eqOk⟩:=ti
    cases d<;>first|exact zh|(refine yp (G:=fun ti K=>_) fun ti=>?_;cases hi<;>cases mx<;>first|exact zh|exact yt (h _))
  case sl k j b o n c=>
    refine yp (G:=fun ti K=>_) fun ti=>?_
    obtain ⟨d,sz,bytes,zero,eqOk⟩:=ti
    cases d<;>first|exact zh|exact yp fun ei=>zu5 h
  case ptr k j b o=>
    refine yp (G:=fun ti K=>_) fun ti=>?_
    obtain ⟨d,sz,bytes,zero,eqOk⟩:=ti
    cases d<;>first|exact zh|exact yp fun ei=>zu5 h
  all_goals exact zh
theorem yfv {z:SV} {n:Nat} {G:List SV→(β→Prop)→Prop} (h: ∀v,Ret (G v)):Ret (fun K=>zy2 z n fun v=>G v K):=by
  induction n generalizing G with
  |zero=>exact h _
  |succ n ih=>exact ih (G:=fun l=>G (z ::l)) fun l=>h _
theorem z0v {z:SV} {n:Nat} {G:List SV→(β→Prop)→Prop} (h: ∀v,Ret (G v)):Ret (fun K=>zu3 z n fun v=>G v K):=by
  cases z
  case arr8 m l=>cases l<;>first|exact zh|exact yt (h _)
  case agg ps=>
    refine zva (G:=fun as K=>match (generalizing:=false) as with| []=>False|a ::r=>G [.tab n (r.length+1) fun _=>a ::r] K) fun as=>?_
    cases as
    ·exact zh
    ·exact h _
  all_goals first|exact zh|exact h _|exact yfv h
theorem zxl {ei:TyI} {ps:List SV} {i:Nat} {v:SV} {G:List SV→(β→Prop)→Prop} (h: ∀v,Ret (G v)):Ret (fun K=>zh9 ei ps i v fun v=>G v K):=by
  have w:Ret (fun K=>zg1 ps 0 0 (i*ei.sz) fun j b o=>zfs ei ps j b o v fun v=>G v K):=zne fun j b o=>zoy h
  match ps,w with
  | [],w=>exact w
  | [p],w=>
    dsimp only [zh9]
    generalize p.isRow=t
    cases t
    ·exact w
    ·exact zoy h
  |p ::q ::r,w=>exact w
theorem zml {ei:TyI} {ps:List SV} {g:List (Nat×SV)} {G:List SV→(β→Prop)→Prop} (h: ∀v,Ret (G v)):Ret (fun K=>zfa ei ps g fun v=>G v K):=by
  induction g generalizing ps with
  |nil=>exact h _
  |cons p r ih=>obtain ⟨i,v⟩:=p;exact zxl fun ps'=>ih
theorem zuu {fs:List (Nat×TypeId)} {ps:List SV} {g:List (Nat×SV)} {G:List SV→(β→Prop)→Prop} (h: ∀v,Ret (G v)):Ret (fun K=>zd5 Γ fs ps g fun v=>G v K):=by
  induction g generalizing ps with
  |nil=>exact h _
  |cons p r ih=>obtain ⟨i,v⟩:=p;exact zl7 fun ft=>yp fun fi=>zne fun j b o=>zoy fun ps'=>ih
theorem z7z {fs:List (Nat×TypeId)} {F:(β→Prop)→Prop} (h:Ret F):Ret (fun K=>zoe Γ fs (F K)):=by
  induction fs with
  |nil=>exact h
  |cons p r ih=>obtain ⟨i,v⟩:=p;exact yp fun _=>ih
theorem z86 {t:TypeId} {g:List (Nat×SV)} {G:SV→(β→Prop)→Prop} (h: ∀v,Ret (G v)):Ret (fun K=>zt6 Γ t g fun v=>G v K):=by
  refine yp (G:=fun ti K=>_) fun ti=>?_
  obtain ⟨d,sz,bytes,zero,eqOk⟩:=ti
  dsimp only
  generalize zero.many=m
  cases m
  ·exact zh
  ·refine zfp (G:=fun zs K=>_) fun zs=>?_
   cases d
   case struct fs=>exact z7z (zuu (G:=fun ps=>G (.agg ps)) fun ps=>h _)
   case arr n e=>exact yp fun ei=>zml fun ps=>z01 h
   all_goals exact zh
theorem ybf (op:Op) (tm:List (Nat×SV)):Ret (fun k=>x1 Γ op tm k):=by
  have hk: ∀v:SV,Ret (fun k:SV→Prop=>k v):=fun v=>z4a v
  cases op
  case move x=>exact zaw (G:=fun v k=>k v) hk
  case assign x=>exact zaw (G:=fun v k=>k v) hk
  case pick c x y=>
    refine zaw (G:=fun cv K=>_) fun cv=>zaw (G:=fun av K=>_) fun av=>zaw (G:=fun bv K=>_) fun bv=>?_
    cases cv<;>first|exact zh|exact z57 (hk _) (hk _)
  case build t ps=>exact zq5 fun g=>z86 hk
  case nilCheck x=>
    refine zaw (G:=fun v K=>_) fun v=>?_
    cases v<;>first|exact zh|exact hk _
  case binOp op t x y t'=>exact zaw fun a=>zaw fun b=>z9v hk
  case unOp op t x=>exact zaw fun a=>ygt hk
  case slice t x lo hi mx=>exact zaw fun v=>zme fun lo=>zme fun hi=>zme fun mx=>z59 hk
  case field s x f=>
    refine yp (G:=fun ti K=>_) fun ti=>?_
    obtain ⟨d,sz,bytes,zero,eqOk⟩:=ti
    cases d
    case struct fs=>
      refine zl7 (G:=fun ft K=>_) fun ft=>yp (G:=fun fi K=>_) fun fi=>zaw (G:=fun v K=>_) fun v=>?_
      try dsimp only
      generalize v.many=m
      cases m
      ·exact zh
      ·exact zfp fun ps=>zn9 hk
    all_goals exact zh
  case indexAddr t x i=>
    refine yp (G:=fun ti K=>_) fun ti=>zaw (G:=fun v K=>_) fun v=>zaw (G:=fun iv K=>_) fun iv=>zod (G:=fun ix K=>_) fun ix=>?_
    obtain ⟨d,sz,bytes,zero,eqOk⟩:=ti
    cases d
    case arr n e=>
      refine yp (G:=fun ei K=>_) fun ei=>?_
      cases v<;>first|exact zh|exact yt (hk _)
    case sl e=>
      refine yp (G:=fun ei K=>_) fun ei=>?_
      cases v<;>first|exact zh|exact yt (hk _)
    all_goals exact zh
  case index t x i=>
    refine yp (G:=fun ti K=>_) fun ti=>zaw (G:=fun v K=>_) fun v=>zaw (G:=fun iv K=>_) fun iv=>zod (G:=fun ix K=>_) fun ix=>?_
    obtain ⟨d,sz,bytes,zero,eqOk⟩:=ti
    cases v
    case str l=>cases d<;>first|exact zh|exact yt (hk _)
    all_goals (cases d<;>first|exact zh|exact yp fun ei=>zh|exact yp fun ei=>yt (znn hk))
  case makeFunc fn first caps=>
    refine z44 (G:=fun vs K=>_) fun vs=>?_
    cases fn
    case func f=>
      dsimp only
      generalize first.toList=fl
      cases fl<;>first|exact zh|exact hk _
    all_goals exact zh
  case extract x i=>
    refine zaw (G:=fun v K=>_) fun v=>?_
    cases v<;>first|exact zh|exact zl7 hk
  case convert s d x=>
    refine yp (G:=fun si K=>_) fun si=>yp (G:=fun di K=>_) fun di=>?_
    obtain ⟨d,sz,bytes,zero,eqOk⟩:=di
    cases d<;>first|exact zh|exact zaw fun v=>zzi hk
  case call c=>
    obtain ⟨callee,args,argTypes⟩:=c
    refine z44 (G:=fun vs K=>_) fun vs=>?_
    dsimp only
    cases callee
    case builtin b=>
      cases b
      case len=>
        dsimp only
        generalize argTypes.toList=ats
        match ats with
        | []=>exact zh
        | [t]=>
          refine yp (G:=fun ti K=>_) fun ti=>?_
          obtain ⟨d,sz,bytes,zero,eqOk⟩:=ti
          dsimp only
          cases d
          case str=>
            match vs with
            | []=>exact zh
            | [v]=>cases v<;>first|exact zh|exact hk _
            |v ::u ::r=>cases v<;>exact zh
          case sl e=>
            match vs with
            | []=>exact zh
            | [v]=>cases v<;>first|exact zh|exact hk _
            |v ::u ::r=>cases v<;>exact zh
          case arr n e=>
            match vs with
            | []=>exact zh
            | [v]=>exact hk _
            |v ::u ::r=>exact zh
          all_goals exact zh
        |_ ::_ ::_=>exact zh
      case min=>
        match vs with
        | []=>exact zh
        | [v]=>cases v<;>exact zh
        | [v,u]=>cases v<;>first|exact zh|(cases u<;>first|exact zh|exact hk _)
        | [v,u,x]=>cases v<;>first|exact zh|(cases u<;>first|exact zh|(cases x<;>first|exact zh|exact hk _))
        |v ::u ::x ::y ::r=>cases v<;>first|exact zh|(cases u<;>first|exact zh|(cases x<;>exact zh))
      case max=>
        match vs with
        | []=>exact zh
        | [v]=>cases v<;>exact zh
        | [v,u]=>cases v<;>first|exact zh|(cases u<;>first|exact zh|exact hk _)
        | [v,u,x]=>cases v<;>first|exact zh|(cases u<;>first|exact zh|(cases x<;>first|exact zh|exact hk _))
        |v ::u ::x ::y ::r=>cases v<;>first|exact zh|(cases u<;>first|exact zh|(cases x<;>exact zh))
      all_goals exact zh
    all_goals exact zh
  all_goals exact zh
theorem z1r (op:Op) (tm:List (Nat×SV)) (hp:List Blk):Ret (fun k=>zfj Γ op tm hp k):=by
  have hk: ∀v:SV,Ret (fun k:SV→Prop=>k v):=fun v=>z4a v
  cases op
  case load t x=>
    refine yp (G:=fun ti K=>_) fun ti=>zaw (G:=fun v K=>_) fun v=>?_
    cases v<;>first|exact zh|exact zo7 fun _ ps=>znn hk|exact yad
  case fieldAddr s x f=>
    refine yp (G:=fun ti K=>_) fun ti=>?_
    obtain ⟨d,sz,bytes,zero,eqOk⟩:=ti
    cases d
    case struct fs=>
      refine zl7 (G:=fun ft K=>_) fun ft=>yp (G:=fun fi K=>_) fun fi=>?_
      obtain ⟨d,sz,bytes,zero,eqOk⟩:=fi
      obtain ⟨c,t⟩:=ft
      cases sz
      ·exact zh
      ·refine zaw (G:=fun v K=>_) fun v=>?_
       cases v
       case xptr A=>exact hk _
       case ptr k j b oo=>
         cases c
         ·exact hk _
         ·cases oo
          ·exact zo7 fun _ ps=>zj9 fun _ r=>zne (G:=fun j' b' o' (K:SV→Prop)=>K (SV.ptr k j' b' o')) fun _ _ _=>hk _
          ·exact hk _
       all_goals exact zh
    all_goals exact zh
  case convert s d x=>
    refine yp (G:=fun si K=>_) fun si=>yp (G:=fun di K=>_) fun di=>?_
    obtain ⟨ds,szs,bytess,zeros,eqOks⟩:=si
    obtain ⟨d,sz,bytes,zero,eqOk⟩:=di
    cases d
    case str=>
      refine zaw (G:=fun v K=>_) fun v=>?_
      cases v
      case str l=>exact hk _
      case nilsl=>
        cases ds
        case sl e=>
          refine yp (G:=fun ei K=>_) fun ei=>?_
          obtain ⟨d,sz,bytes,zero,eqOk⟩:=ei
          cases d
          case int kd=>cases kd<;>first|exact zh|exact hk _
          all_goals exact zh
        all_goals exact zh
      case sl k j b o n c=>
        cases ds
        case sl e=>
          refine yp (G:=fun ei K=>_) fun ei=>?_
          obtain ⟨d,sz,bytes,zero,eqOk⟩:=ei
          cases d
          case int kd=>cases kd<;>first|exact zh|exact z75 (G:=fun l (K:SV→Prop)=>K (SV.str l)) fun l=>hk _
          all_goals exact zh
        all_goals exact zh
      all_goals exact zh
    all_goals exact zh
  all_goals exact zh
theorem z6q (op:Op) (tm:List (Nat×SV)) (m:Nat):Ret (fun k:SV×Blk→Prop=>zcy Γ op tm m fun v b=>k (v,b)):=by
  have hk: ∀v b,Ret (fun k:SV×Blk→Prop=>k (v,b)):=fun v b=>z4a (v,b)
  cases op
  case alloc t=>exact yp fun ti=>zfp fun ps=>hk _ _
  case box t x=>exact zaw fun v=>zfp fun ps=>hk _ _
  case buildSlice t n ps=>
    refine zq5 (G:=fun g K=>_) fun g=>yp (G:=fun ti K=>_) fun ti=>?_
    obtain ⟨d,sz,bytes,zero,eqOk⟩:=ti
    cases d<;>first|exact zh|exact yp fun ei=>yt (z0v fun zs=>zml fun ps=>hk _ _)
  case makeSlice t x y=>
    refine zaw (G:=fun lv K=>_) fun lv=>zaw (G:=fun cv K=>_) fun cv=>zod (G:=fun l K=>_) fun l=>zod (G:=fun c K=>_) fun c=>yp (G:=fun ti K=>_) fun ti=>?_
    obtain ⟨d,sz,bytes,zero,eqOk⟩:=ti
    cases d<;>first|exact zh|exact yp fun ei=>yt (z0v fun zs=>hk _ _)
  all_goals exact zh
end
end Go.Sym

namespace Go.Sym
structure PStep where
  i:Nat
  loose:List Nat
inductive LateK where
  |pure|read (M:List Nat)|maker (b:Nat)
structure Late where
  i:Nat
  o:Oper
  v:SV
  k:LateK
def zqt (v u:SV) (p:Prop):Prop:=v=u∧p
attribute [irreducible] zqt
theorem zb {v:SV} {p:Prop} (h:p):zqt v v p:=by unfold zqt;exact ⟨rfl,h⟩
theorem zlq {v u:SV} {p:Prop} (h:zqt v u p):v=u∧p:=by unfold zqt at h;exact h
def zca (L:List Nat):List Late→(List Nat→Prop)→Prop
  | [],k=>k []
  |x ::xs,k=>match x.k with
   | .maker b=>match zbn L x.i with|true=>zca L xs fun M=>k (b ::M)|false=>zca L xs k
   |_=>zca L xs k
def zmr:List Nat→List Blk→(List Blk→Prop)→Prop
  | [],hp,k=>k hp
  |m ::M,hp,k=>zj5 hp m .dead fun hp'=>zmr M hp' k
def zf9 (hp:List Blk):List Nat→List Blk→(List Blk→Prop)→Prop
  | [],hp',k=>k hp'
  |m ::M,hp',k=>ze7 hp m fun b=>zj5 hp' m b fun hp''=>zf9 hp M hp'' k
def zxc (M:List Nat):List Nat→Bool
  | []=>true
  |x ::xs=>match zbn M x with|true=>false|false=>zxc M xs
def ze9 (M:List Nat) (v:SV) (p:Prop):Prop:=
  match M with
  | []=>p
  |_ ::_=>match zxc M v.ks with|true=>p|false=>False
def zed (M:List Nat):List Blk→Prop→Prop
  | [],p=>p
  |b ::bs,p=>match M with
   | []=>p
   |_ ::_=>match b with
    | .dead=>zed M bs p
    | .mk _ ps=>match zxc M (ksL ps) with|true=>zed M bs p|false=>False
def reK (Γ:Ctx) (tm:List (Nat×SV)) (hp:List Blk) (L:List Nat):List Late→Prop→Prop
  | [],p=>p
  |x ::xs,p=>match x.k with
   | .read M=>match zbn L x.i with
     |true=>zmr M hp fun hm=>zfj Γ x.o.op tm hm fun v=>zqt v x.v (reK Γ tm hp L xs p)
     |false=>reK Γ tm hp L xs p
   |_=>reK Γ tm hp L xs p
def addM (b:Nat):List Late→List Late
  | []=> []
  |x ::xs=>(match x.k with| .read M=>⟨x.i,x.o,x.v,.read (b ::M)⟩|_=>x) ::addM b xs
def zl6 (all:List Oper) (o:Oper) (tm:List (Nat×SV)) (yes no:Prop):Prop:=
  match o.guard with
  |none=>yes
  |some (j,want)=>ze7 all j fun g=>match g.dst with
   |some d=>yn tm d fun v=>match v with
    | .bool t=>zx (t==want) yes no
    | .tup _=>no
    |_=>False
   |none=>False
noncomputable def zfn (Γ:Ctx) (all:List Oper) (steps:List PStep):List Late→List (Nat×SV)→List Blk→(St→Prop)→Prop:=
  List.rec (motive:=fun _=>List Late→List (Nat×SV)→List Blk→(St→Prop)→Prop) (fun _ tm hp K=>K ⟨tm,hp⟩) (fun s _ ih late tm hp K=>ze7 all s.i fun o=>zl6 all o tm
    (match zbp Γ o.op with
      | .pure=>x1 Γ o.op tm fun v=>zca s.loose late fun M=>ze9 M v (zd4 Γ.nt tm hp o.dst v fun st=>match st with|⟨tm',hp'⟩=>ih (⟨s.i,o,v,.pure⟩ ::late) tm' hp' K)
      | .read=>zca s.loose late fun M=>zmr M hp fun hm=>zfj Γ o.op tm hm fun v=>ze9 M v (zd4 Γ.nt tm hp o.dst v fun st=>match st with|⟨tm',hp'⟩=>ih (⟨s.i,o,v,.read M⟩ ::late) tm' hp' K)
      | .maker=>zca s.loose late fun M=>zkv hp fun n=>zcy Γ o.op tm n fun v b=>match b with
        | .mk el ps=>ze9 M (.agg ps) (zf7 hp (.mk el ps) fun hp1=>zd4 Γ.nt tm hp1 o.dst v fun st=>match st with|⟨tm',hp'⟩=>ih (⟨s.i,o,v,.maker n⟩ ::addM n late) tm' hp' K)
        | .dead=>False
      | .anchor=>zca s.loose late fun M=>zmr M hp fun hm=>zce Γ o.op tm hm
          (fun v hp1=>ze9 M v (zed M hp1 (zf9 hp M hp1 fun hp2=>zd4 Γ.nt tm hp2 o.dst v fun st=>match st with|⟨tm',hp'⟩=>reK Γ tm' hp' s.loose late (ih late tm' hp' K))))
          (fun hp1=>zed M hp1 (zf9 hp M hp1 fun hp2=>match o.dst with
            |none=>reK Γ tm hp2 s.loose late (ih late tm hp2 K)
            |some _=>False)))
    (zd4 Γ.nt tm hp o.dst (.tup []) fun st=>match st with|⟨tm',hp'⟩=>ih (⟨s.i,o,.tup [],.pure⟩ ::late) tm' hp' K)) steps
theorem z31 (Γ:Ctx) (all:List Oper) (s:PStep) (ss:List PStep) (late:List Late) (tm:List (Nat×SV)) (hp:List Blk) (K:St→Prop):zfn Γ all (s ::ss) late tm hp K=ze7 all s.i fun o=>zl6 all o tm
    (match zbp Γ o.op with
      | .pure=>x1 Γ o.op tm fun v=>zca s.loose late fun M=>ze9 M v (zd4 Γ.nt tm hp o.dst v fun st=>match st with|⟨tm',hp'⟩=>zfn Γ all ss (⟨s.i,o,v,.pure⟩ ::late) tm' hp' K)
      | .read=>zca s.loose late fun M=>zmr M hp fun hm=>zfj Γ o.op tm hm fun v=>ze9 M v (zd4 Γ.nt tm hp o.dst v fun st=>match st with|⟨tm',hp'⟩=>zfn Γ all ss (⟨s.i,o,v,.read M⟩ ::late) tm' hp' K)
      | .maker=>zca s.loose late fun M=>zkv hp fun n=>zcy Γ o.op tm n fun v b=>match b with
        | .mk el ps=>ze9 M (.agg ps) (zf7 hp (.mk el ps) fun hp1=>zd4 Γ.nt tm hp1 o.dst v fun st=>match st with|⟨tm',hp'⟩=>zfn Γ all ss (⟨s.i,o,v,.maker n⟩ ::addM n late) tm' hp' K)
        | .dead=>False
      | .anchor=>zca s.loose late fun M=>zmr M hp fun hm=>zce Γ o.op tm hm
          (fun v hp1=>ze9 M v (zed M hp1 (zf9 hp M hp1 fun hp2=>zd4 Γ.nt tm hp2 o.dst v fun st=>match st with|⟨tm',hp'⟩=>reK Γ tm' hp' s.loose late (zfn Γ all ss late tm' hp' K))))
          (fun hp1=>zed M hp1 (zf9 hp M hp1 fun hp2=>match o.dst with
            |none=>reK Γ tm hp2 s.loose late (zfn Γ all ss late tm hp2 K)
            |some _=>False)))
    (zd4 Γ.nt tm hp o.dst (.tup []) fun st=>match st with|⟨tm',hp'⟩=>zfn Γ all ss (⟨s.i,o,.tup [],.pure⟩ ::late) tm' hp' K):=rfl
def x5 (o:Oper):List Nat:=(o.after.toList.filter (Region.binds .any)).map (·.on)
abbrev Table:=List (Nat×Nat)
def zr5 (T:Table) (i:Nat):Nat:=
  match T with
  | []=>0
  |(j,m) ::r=>if Nat.beq j i then m else zr5 r i
def zfk (T:Table):List Nat→Nat
  | []=>0
  |e ::es=>(Nat.lor (Nat.lor (Nat.shiftLeft 1 e) (zr5 T e)) (zfk T es))
def zsu (ops:Array Oper) (s:PStep) (o:Oper) (m:Nat):List PStep→Bool
  | []=>true
  |x ::xs=>(match zbn s.loose x.i with
     |true=>match ops[x.i]? with|some y=>y.apart ops o|none=>false
     |false=>Nat.testBit m x.i)&&zsu ops s o m xs
def zl2 (ops:Array Oper) (Γ:Ctx) (L:List Nat):List PStep→List (Option Nat)→Bool
  | [],_=>true
  |x ::xs,ds=>(match ops[x.i]? with
     |some y=>(match zbp Γ y.op,zbn L x.i with
      | .read,true=>(y.dst ::ds).all fun d=>match d with|some d=>!(y.looksAt ops).contains d|none=>true
      |_,_=>true)&&zl2 ops Γ L xs (y.dst ::ds)
     |none=>false)
def zu0 (i:Nat):List PStep→Bool
  | []=>false
  |x ::xs=>Nat.beq x.i i||zu0 i xs
def ze5 (ops:Array Oper) (Γ:Ctx):List PStep→List PStep→Table→Bool
  |_,[],_=>true
  |pre,s ::ss,T=>match ops[s.i]? with
   |none=>false
   |some o=>
    let m:=zfk T (x5 o)
    !zu0 s.i pre&&(x5 o).all (fun e=>zu0 e pre)&&zsu ops s o m pre&&
    (match zbp Γ o.op with
      | .anchor=>ss.all (fun t=>match ops[t.i]? with|some u=>(x5 u).any fun e=>!zu0 e pre|none=>false)&&zl2 ops Γ s.loose pre [o.dst]
      |_=>true)&&ze5 ops Γ (s ::pre) ss ((s.i,m) ::T)
def zmi (ops:Array Oper) (Γ:Ctx) (steps:List PStep):Bool:=
  Region.noSelect ops&&(List.range ops.size).all (fun i=>zu0 i steps)&&ze5 ops Γ [] steps []
end Go.Sym
