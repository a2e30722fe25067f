/-
  Contracts of functions of the program, each said of symbolic values, and plain laws; no condition beyond each statement's own.
-/
import Derived.Test.YtmmpgjcpielefaaGreatG10
set_option linter.unusedSimpArgs false
set_option linter.unusedVariables false
namespace Go.Sym
def Ret {α:Type} (F:(α→Prop)→Prop):Prop:= ∀k,F k→ ∃x,k x∧ ∀k':α→Prop,k' x→F k'
theorem z26 {α:Type} (x:α):Ret (fun k=>k x):=fun _ h=>⟨x,h,fun _ h=>h⟩
theorem zf {α:Type}:Ret (fun _:α→Prop=>False):=fun _ h=>h.elim
theorem yq {α:Type} {p:Prop} {F:(α→Prop)→Prop} (h:Ret F):Ret (fun k=>Pre p (F k)):=fun k hk=>by
  obtain ⟨h1,h2⟩:=zl hk
  obtain ⟨x,h3,h4⟩:=h k h2
  exact ⟨x,h3,fun k' h=>zw h1 (h4 k' h)⟩
theorem z8u {R:SV→Prop}:Ret (fun k:SV→Prop=>zmz R k):=fun k hk=>by
  obtain ⟨v,h1,h2⟩:=yan hk
  exact ⟨v,h2,fun k' h=>ygv v h1 h⟩
theorem z46 {α:Type} {t:Bool} {F G:(α→Prop)→Prop} (h:Ret F) (h':Ret G):Ret (fun k=>zx t (F k) (G k)):=fun k hk=>by
  obtain ⟨h1,h2⟩:=zy hk
  cases t with
  |true=>
   obtain ⟨x,h3,h4⟩:=h k (h1 rfl)
   exact ⟨x,h3,fun k' h=>zo rfl (h4 k' h)⟩
  |false=>
   obtain ⟨x,h3,h4⟩:=h' k (h2 rfl)
   exact ⟨x,h3,fun k' h=>zn rfl (h4 k' h)⟩
section
variable {β:Type}
theorem zkl {α:Type} {a b:List α} {G:List α→(β→Prop)→Prop} (h: ∀l,Ret (G l)):Ret (fun k=>zd4 a b fun l=>G l k):=by
  induction a generalizing G with
  |nil=>exact h _
  |cons y ys ih=>exact ih (G:=fun l=>G (y ::l)) fun l=>h _
theorem ybt {α:Type} {l:List α} {i:Nat} {x:α} {G:List α→(β→Prop)→Prop} (h: ∀l,Ret (G l)):Ret (fun k=>zjd l i x fun l=>G l k):=by
  induction l generalizing G i with
  |nil=>exact zf
  |cons y ys ih=>
   cases i with
   |zero=>exact h _
   |succ i=>exact ih (G:=fun l=>G (y ::l)) fun l=>h _
theorem zk6 {α:Type} {l:List α} {i:Nat} {G:α→(β→Prop)→Prop} (h: ∀x,Ret (G x)):Ret (fun k=>ze2 l i fun x=>G x k):=by
  induction l generalizing i with
  |nil=>exact zf
  |cons y ys ih=>
   cases i with
   |zero=>exact h _
   |succ i=>exact ih
theorem yo {α:Type} {l:List (Nat×α)} {n:Nat} {G:α→(β→Prop)→Prop} (h: ∀x,Ret (G x)):Ret (fun k=>ym l n fun x=>G x k):=by
  induction l with
  |nil=>exact zf
  |cons p r ih=>
   obtain ⟨i,v⟩:=p
   simp only [ym]
   generalize Nat.beq i n=t
   cases t
   ·exact ih
   ·exact h _
theorem z5q {v:Value} {G:SV→(β→Prop)→Prop} (h: ∀x,Ret (G x)):Ret (fun k=>znq v fun x=>G x k):=by
  intro k hk
  unfold znq at hk ⊢
  split at hk
  case h_12=>exact hk.elim
  all_goals (try split at hk)
  all_goals first
    |exact hk.elim
    |exact h _ k hk
    |(rename_i e;simp only [e];exact h _ k hk)
theorem zao {tm:List (Nat×SV)} {x:Operand} {G:SV→(β→Prop)→Prop} (h: ∀x,Ret (G x)):Ret (fun k=>evK tm x fun x=>G x k):=by
  cases x with
  |tmp t=>exact yo h
  |const v=>exact z5q h
  |func f=>exact h _
  |global g=>exact zf
theorem z2c {tm:List (Nat×SV)} {xs:List Operand} {G:List SV→(β→Prop)→Prop} (h: ∀x,Ret (G x)):Ret (fun k=>z0j tm xs fun x=>G x k):=by
  induction xs generalizing G with
  |nil=>exact h _
  |cons x xs ih=>exact zao fun v=>ih (G:=fun vs=>G (v ::vs)) fun vs=>h _
theorem zpt {tm:List (Nat×SV)} {xs:List (Nat×Operand)} {G:List (Nat×SV)→(β→Prop)→Prop} (h: ∀x,Ret (G x)):Ret (fun k=>zjo tm xs fun x=>G x k):=by
  induction xs generalizing G with
  |nil=>exact h _
  |cons x xs ih=>
   obtain ⟨i,x⟩:=x
   exact zao fun v=>ih (G:=fun vs=>G ((i,v) ::vs)) fun vs=>h _
theorem zok {v:SV} {G:Nat→(β→Prop)→Prop} (h: ∀x,Ret (G x)):Ret (fun k=>zuq v fun x=>G x k):=by
  cases v<;>first|exact zf|exact h _|exact yq (h _)
theorem zrk {v:SV} {G:Nat→(β→Prop)→Prop} (h: ∀x,Ret (G x)):Ret (fun k=>z20 v fun x=>G x k):=by
  cases v<;>first|exact zf|exact h _|exact yq (h _)
theorem zlc {tm:List (Nat×SV)} {x:Option Operand} {G:Option Nat→(β→Prop)→Prop} (h: ∀x,Ret (G x)):Ret (fun k=>zhz tm x fun x=>G x k):=by
  cases x with
  |none=>exact h _
  |some x=>exact zao fun v=>zok (G:=fun n=>G (some n)) fun n=>h _
theorem zjp {ps:List SV} {j b:Nat} {G:List SV→List SV→(β→Prop)→Prop} (h: ∀a r,Ret (G a r)):Ret (fun k=>zb6 ps j b fun a r=>G a r k):=by
  induction ps generalizing j b G with
  |nil=>
   cases j with
   |zero=>
    simp only [zb6]
    generalize Nat.beq b 0=t
    cases t
    ·exact zf
    ·exact h _ _
   |succ j=>exact zf
  |cons p ps ih=>
   cases j with
   |zero=>
    simp only [zb6]
    generalize Nat.beq b 0=t
    cases t
    ·exact zf
    ·exact h _ _
   |succ j=>
    simp only [zb6]
    generalize Nat.ble p.size b=t
    cases t
    ·exact zf
    ·exact ih (G:=fun a r=>G (p ::a) r) fun a r=>h _ _
theorem zyp {ps:List SV} {n:Nat} {G:List SV→List SV→(β→Prop)→Prop} (h: ∀a r,Ret (G a r)):Ret (fun k=>zhr ps n fun a r=>G a r k):=by
  induction ps generalizing n G with
  |nil=>
   cases n with
   |zero=>exact h _ _
   |succ n=>exact zf
  |cons p ps ih=>
   cases n with
   |zero=>exact h _ _
   |succ n=>
    simp only [zhr]
    generalize Nat.ble p.size (n+1)=t
    cases t
    ·exact zf
    ·exact ih (G:=fun a r=>G (p ::a) r) fun a r=>h _ _
theorem zyy {ps:List SV} {G:SV→(β→Prop)→Prop} (h: ∀v,Ret (G v)):Ret (fun k=>zjm ps fun v=>G v k):=by
  match ps with
  | []=>exact h _
  | [p]=>
    simp only [zjm]
    generalize p.isRow=t
    cases t
    ·exact h _
    ·exact h _
  |p ::q ::r=>exact h _
theorem zl4 {ps:List SV} {j b c:Nat} {G:Nat→Nat→List (Nat×Nat)→(β→Prop)→Prop} (h: ∀a b c,Ret (G a b c)):Ret (fun k=>zhd ps j b c fun x y z=>G x y z k):=by
  induction ps generalizing j b c with
  |nil=>
   cases c with
   |zero=>exact h _ _ _
   |succ c=>exact zf
  |cons p ps ih=>
   cases c with
   |zero=>exact h _ _ _
   |succ c=>
    simp only [zhd]
    generalize Nat.ble p.size (c+1)=t
    cases t
    ·generalize p.isRow=t
     cases t
     ·exact zf
     ·exact h _ _ _
    ·exact ih
theorem ycs:
    (∀v:SV,∀(G:List SV→(β→Prop)→Prop),(∀l,Ret (G l))→Ret (fun k=>zcb v fun l=>G l k))∧
    (∀vs:List SV,∀(G:List SV→(β→Prop)→Prop),(∀l,Ret (G l))→Ret (fun k=>zfd vs fun l=>G l k)):=by
  have one: ∀v:SV,∀(G:List SV→(β→Prop)→Prop),(∀l,Ret (G l))→Ret (fun k=>zcb v fun l=>G l k):=fun v=>by
    refine SV.rec (motive_1:=fun v=> ∀(G:List SV→(β→Prop)→Prop),(∀l,Ret (G l))→Ret (fun k=>zcb v fun l=>G l k))
      (motive_2:=fun vs=> ∀(G:List SV→(β→Prop)→Prop),(∀l,Ret (G l))→Ret (fun k=>zfd vs fun l=>G l k))
      ?_ ?_ ?_ ?_ ?_ ?_ ?_ ?_ ?_ ?_ ?_ ?_ ?_ ?_ ?_ ?_ ?_ ?_ ?_ ?_ ?_ ?_ ?_ ?_ ?_ ?_ ?_ v
    case refine_22=>intro ps ih G h;exact ih G h
    case refine_26=>intro G h;exact h _
    case refine_27=>
      intro v vs ihv ihs G h
      exact ihv (fun a k=>zfd vs fun b=>zd4 a b fun l=>G l k) fun a=>ihs (fun b k=>zd4 a b fun l=>G l k) fun b=>zkl h
    all_goals (intros;rename_i h;exact h _)
  refine ⟨one,fun vs=>?_⟩
  induction vs with
  |nil=>intro G h;exact h _
  |cons v vs ih=>
   intro G h
   exact one v (fun a k=>zfd vs fun b=>zd4 a b fun l=>G l k) fun a=>ih (fun b k=>zd4 a b fun l=>G l k) fun b=>zkl h
theorem zfp {v:SV} {G:List SV→(β→Prop)→Prop} (h: ∀l,Ret (G l)):Ret (fun k=>zcb v fun l=>G l k):=ycs.1 v G h
theorem zs6 {o:List (Nat×Nat)} {es:Nat} {G:Nat→Nat→(β→Prop)→Prop} (h: ∀i c,Ret (G i c)):Ret (fun k=>zla o es fun i c=>G i c k):=by
  match o with
  | []=>exact h _ _
  | [(i,e)]=>
    simp only [zla]
    generalize Nat.beq e es=t
    cases t
    ·exact zf
    ·exact h _ _
  | [(i,e),(c,1)]=>
    simp only [zla]
    generalize Nat.beq e es=t
    cases t
    ·exact zf
    ·exact h _ _
  | [(i,e),(c,0)]=>exact zf
  | [(i,e),(c,n+2)]=>exact zf
  |x ::(c,n) ::z ::r=>simp only [zla];exact zf
theorem yak {a:At} {G:SV→(β→Prop)→Prop} (h: ∀v,Ret (G v)):Ret (fun k=>atK a fun v=>G v k):=by
  cases a<;>exact h _
theorem ybz {as:List At} {G:List SV→(β→Prop)→Prop} (h: ∀v,Ret (G v)):Ret (fun k=>z8f as fun v=>G v k):=by
  induction as generalizing G with
  |nil=>exact h _
  |cons a as ih=>exact yak fun v=>ih (G:=fun vs=>G (v ::vs)) fun vs=>h _
theorem z9j {α:Type} {l:List α} {n:Nat} {G:List α→(β→Prop)→Prop} (h: ∀v,Ret (G v)):Ret (fun k=>zzb l n fun v=>G v k):=by
  induction l generalizing n with
  |nil=>
   cases n with
   |zero=>exact h _
   |succ n=>exact zf
  |cons x xs ih=>
   cases n with
   |zero=>exact h _
   |succ n=>exact ih
theorem z54 {α:Type} {l:List α} {n:Nat} {G:List α→(β→Prop)→Prop} (h: ∀v,Ret (G v)):Ret (fun k=>zrq l n fun v=>G v k):=by
  induction l generalizing n G with
  |nil=>
   cases n with
   |zero=>exact h _
   |succ n=>exact zf
  |cons x xs ih=>
   cases n with
   |zero=>exact h _
   |succ n=>exact ih (G:=fun l=>G (x ::l)) fun l=>h _
theorem z8q {p:SV} {o:List (Nat×Nat)} {G:SV→(β→Prop)→Prop} (h: ∀v,Ret (G v)):Ret (fun k=>zm1 p o fun v=>G v k):=by
  cases p
  case tab n es f=>dsimp only [zm1];exact zs6 fun i c=>yq (zk6 fun a=>yak h)
  all_goals first
    |exact zf
    |exact yq (h _)
    |(cases o<;>first|exact h _|exact zf)
theorem yb8 {p:SV} {o:List (Nat×Nat)} {m:Nat} {G:SV→(β→Prop)→Prop} (h: ∀v,Ret (G v)):Ret (fun k=>ztq p o m fun v=>G v k):=by
  cases p
  case tab n es f=>dsimp only [ztq];exact zs6 fun i c=>yq (z9j fun r=>z54 fun as=>ybz (G:=fun vs=>G (.agg vs)) fun vs=>h _)
  all_goals first
    |exact zf
    |exact yq (h _)
theorem zme {ti:TyI} {ps:List SV} {j b:Nat} {o:List (Nat×Nat)} {G:SV→(β→Prop)→Prop} (h: ∀v,Ret (G v)):Ret (fun k=>znd ti ps j b o fun v=>G v k):=by
  obtain ⟨d,sz,bytes,zero,eqOk⟩:=ti
  refine zjp (G:=fun _ r k=>match (generalizing:=false) d with
    | .arr .. | .struct .. =>match (generalizing:=false) o with
      | []=>zhr r sz fun a _=>zjm a fun v=>G v k
      |_=>match (generalizing:=false) r with|p ::_=>ztq p o sz fun v=>G v k| []=>False
    |_=>match (generalizing:=false) r with|p ::_=>zm1 p o (fun v=>G v k)| []=>False) fun a r=>?_
  have s:Ret (fun k=>match (generalizing:=false) r with|p ::_=>zm1 p o (fun v=>G v k)| []=>False):=by
    cases r
    ·exact zf
    ·exact z8q h
  have t:Ret (fun k=>match (generalizing:=false) o with
   | []=>zhr r sz fun a _=>zjm a fun v=>G v k
   |_=>match (generalizing:=false) r with|p ::_=>ztq p o sz fun v=>G v k| []=>False):=by
    cases o with
    |nil=>exact zyp fun a _=>zyy h
    |cons x o=>
     cases r
     ·exact zf
     ·exact yb8 h
  cases d<;>first|exact s|exact t
theorem z8j {vs:List SV} {G:List UInt64→(β→Prop)→Prop} (h: ∀v,Ret (G v)):Ret (fun k=>zup vs fun v=>G v k):=by
  induction vs generalizing G with
  |nil=>exact h _
  |cons v vs ih=>cases v<;>first|exact zf|exact ih (G:=fun l=>G (_ ::l)) fun l=>h _
theorem zx4 {v:SV} {G:At→(β→Prop)→Prop} (h: ∀v,Ret (G v)):Ret (fun k=>zp1 v fun v=>G v k):=by
  cases v<;>first|exact zf|exact h _
theorem zve {vs:List SV} {G:List At→(β→Prop)→Prop} (h: ∀v,Ret (G v)):Ret (fun k=>zko vs fun v=>G v k):=by
  induction vs generalizing G with
  |nil=>exact h _
  |cons v vs ih=>exact zx4 fun a=>ih (G:=fun as=>G (a ::as)) fun l=>h _
theorem zvi {p:SV} {o:List (Nat×Nat)} {v:SV} {G:SV→(β→Prop)→Prop} (h: ∀v,Ret (G v)):Ret (fun k=>zfk p o v fun v=>G v k):=by
  have plain:Ret (fun k=>match (generalizing:=false) o with
    | []=>match (generalizing:=false) v.scalar with|true=>G v k|false=>False
    |_=>False):=by
    cases o with
    |nil=>
     generalize v.scalar=t
     cases t
     ·exact zf
     ·exact h _
    |cons x o=>exact zf
  cases p
  case tab n es f=>
    have one:Ret (fun k=>zp1 v fun a=>zla o es fun i c=>Pre (i<n) (zjd (f i) c a fun r=>G (.tab n es (zht f i r)) k)):=
      zx4 fun a=>zs6 fun i c=>yq (ybt (G:=fun r=>G (.tab n es (zht f i r))) fun r=>h _)
    cases v
    case agg vs=>
      refine zve (G:=fun as k=>zla o es fun i c=>match (generalizing:=false) c with
        |0=>Pre (i<n∧as.length=es) (G (.tab n es (zht f i as)) k)
        |_=>False) fun as=>zs6 (G:=fun i c k=>match (generalizing:=false) c with
        |0=>Pre (i<n∧as.length=es) (G (.tab n es (zht f i as)) k)
        |_=>False) fun i c=>?_
      cases c
      ·exact yq (h _)
      ·exact zf
    all_goals exact one
  case arr8 n l=>cases v<;>first|exact zf|exact yq (h _)
  case arr32 n l=>cases v<;>first|exact zf|exact yq (h _)
  case arr64 n l=>cases v<;>first|exact zf|exact yq (h _)|exact z8j fun x=>yq (h _)
  case arri n l=>cases v<;>first|exact zf|exact yq (h _)
  case arrs n l=>cases v<;>first|exact zf|exact yq (h _)
  case agg ps=>exact zf
  case tup ps=>exact zf
  all_goals (cases o<;>first|exact zf|(dsimp only [zfk];exact plain))
theorem zpb {ti:TyI} {ps:List SV} {j b:Nat} {o:List (Nat×Nat)} {v:SV} {G:List SV→(β→Prop)→Prop} (h: ∀v,Ret (G v)):Ret (fun k=>zfh ti ps j b o v fun v=>G v k):=by
  unfold zfh
  refine zjp (G:=fun a r k=>match (generalizing:=false) o with
    | []=>match (generalizing:=false) v.many with
      |true=>zhr r ti.sz fun _ r'=>zcb v fun fs=>match (generalizing:=false) Nat.beq (yf fs) ti.sz with|true=>(match (generalizing:=false) zis fs with|true=>zd4 fs r' fun q=>zd4 a q fun v=>G v k|false=>False)|false=>False
      |false=>match (generalizing:=false) Nat.beq ti.sz 1 with
       |true=>match (generalizing:=false) r with|p ::r'=>zfk p [] v fun p'=>zd4 a (p' ::r') fun v=>G v k| []=>False
       |false=>False
    |_=>match (generalizing:=false) Nat.beq v.size ti.sz with
     |true=>match (generalizing:=false) r with|p ::r'=>zfk p o v fun p'=>zd4 a (p' ::r') fun v=>G v k| []=>False
     |false=>False) fun a r=>?_
  cases o with
  |nil=>
   generalize v.many=t
   cases t
   ·generalize Nat.beq ti.sz 1=t
    cases t
    ·exact zf
    ·cases r with
     |nil=>exact zf
     |cons p r'=>exact zvi fun p'=>zkl h
   ·refine zyp fun _ r'=>zfp (G:=fun fs k=>match (generalizing:=false) Nat.beq (yf fs) ti.sz with|true=>(match (generalizing:=false) zis fs with|true=>zd4 fs r' fun q=>zd4 a q fun v=>G v k|false=>False)|false=>False) fun fs=>?_
    generalize Nat.beq (yf fs) ti.sz=t
    cases t
    ·exact zf
    ·generalize zis fs=t
     cases t
     ·exact zf
     ·exact zkl fun q=>zkl h
  |cons x o=>
   dsimp only
   generalize Nat.beq v.size ti.sz=t
   cases t
   ·exact zf
   ·cases r with
    |nil=>exact zf
    |cons p r'=>exact zvi fun p'=>zkl h
theorem ycq {op:BinOp} {a b:Int} {G:SV→(β→Prop)→Prop} (h: ∀v,Ret (G v)):Ret (fun k=>z86 op a b fun v=>G v k):=by
  cases op<;>first|exact zf|exact h _|exact yq (h _)
theorem ygm {op:BinOp} {a b:UInt8} {G:SV→(β→Prop)→Prop} (h: ∀v,Ret (G v)):Ret (fun k=>u8K op a b fun v=>G v k):=by
  cases op<;>first|exact zf|exact h _|exact yq (h _)
theorem ybv {op:BinOp} {a b:UInt16} {G:SV→(β→Prop)→Prop} (h: ∀v,Ret (G v)):Ret (fun k=>z9e op a b fun v=>G v k):=by
  cases op<;>first|exact zf|exact h _|exact yq (h _)
theorem ycg {op:BinOp} {a b:UInt32} {G:SV→(β→Prop)→Prop} (h: ∀v,Ret (G v)):Ret (fun k=>z8r op a b fun v=>G v k):=by
  cases op<;>first|exact zf|exact h _|exact yq (h _)
theorem yde {op:BinOp} {a b:UInt64} {G:SV→(β→Prop)→Prop} (h: ∀v,Ret (G v)):Ret (fun k=>z9o op a b fun v=>G v k):=by
  cases op<;>first|exact zf|exact h _|exact yq (h _)
theorem ycy {op:BinOp} {a b:List UInt8} {G:SV→(β→Prop)→Prop} (h: ∀v,Ret (G v)):Ret (fun k=>z7x op a b fun v=>G v k):=by
  cases op<;>first|exact zf|exact h _|exact yq (h _)
theorem yc9 {x y:SV} {G:SV→(β→Prop)→Prop} (h: ∀v,Ret (G v)):Ret (fun k=>z75 x y fun v=>G v k):=by
  cases x<;>first
    |exact zrk fun n=>yq (h _)
    |exact zrk fun n=>zf
theorem yby {x y:SV} {G:SV→(β→Prop)→Prop} (h: ∀v,Ret (G v)):Ret (fun k=>z71 x y fun v=>G v k):=by
  cases x<;>first
    |exact zrk fun n=>yq (h _)
    |exact zrk fun n=>zf
theorem yc3 {op:BinOp} {x y:SV} {G:SV→(β→Prop)→Prop} (h: ∀v,Ret (G v)):Ret (fun k=>z0k op x y fun v=>G v k):=by
  cases op
  case shl=>exact yc9 h
  case shr=>exact yby h
  all_goals
    cases x<;>first
      |exact zf
      |(cases y<;>dsimp only [z0k]<;>first|exact zf|exact ycq h|exact ygm h|exact ybv h|exact ycg h|exact yde h|exact ycy h)
theorem yfb {op:UnOp} {x:SV} {G:SV→(β→Prop)→Prop} (h: ∀v,Ret (G v)):Ret (fun k=>unK op x fun v=>G v k):=by
  cases op<;>cases x<;>first|exact zf|exact h _|exact yq (h _)
theorem zxq {d:IntKind} {x:SV} {G:SV→(β→Prop)→Prop} (h: ∀v,Ret (G v)):Ret (fun k=>zgq d x fun v=>G v k):=by
  cases d<;>cases x<;>first|exact zf|exact h _|exact yq (h _)
end
end Go.Sym

namespace Go.Sym
section
variable {β:Type} {Γ:Ctx}
theorem znk {hp:List Blk} {n:Nat} {G:TypeId→List SV→(β→Prop)→Prop} (h: ∀a b,Ret (G a b)):Ret (fun k=>zdv hp n fun a b=>G a b k):=by
  refine zk6 (G:=fun (b:Blk) k=>match (generalizing:=false) b with| .mk el ps=>G el ps k| .dead=>False) fun b=>?_
  cases b
  ·exact h _ _
  ·exact zf
theorem ya5 {hp:List Blk} {n j b:Nat} {G:SV→(β→Prop)→Prop} (h: ∀v,Ret (G v)):Ret (fun k=>z3n hp n j b fun v=>G v k):=by
  refine znk fun _ ps=>zjp (G:=fun _ r k=>match (generalizing:=false) r with|p ::_=>G p k| []=>False) fun _ r=>?_
  cases r
  ·exact zf
  ·exact h _
theorem z3b {hp:List Blk} {v:SV} {G:List UInt8→(β→Prop)→Prop} (h: ∀v,Ret (G v)):Ret (fun k=>zit hp v fun v=>G v k):=by
  cases v
  case sl k j b o n c=>
    refine ya5 (G:=fun p k=>match (generalizing:=false) p with
      | .arr8 _ l=>Pre (off o+n≤l.length) (G ((l.drop (off o)).take n) k)
      |_=>False) fun p=>?_
    cases p<;>first|exact zf|exact yq (h _)
  all_goals first|exact zf|exact h _
theorem znm {fi:TyI} {ps:List SV} {c:Nat} {G:SV→(β→Prop)→Prop} (h: ∀v,Ret (G v)):Ret (fun k=>zgy fi ps c fun v=>G v k):=by
  cases c with
  |zero=>dsimp only [zgy];exact zme h
  |succ c=>dsimp only [zgy];exact zl4 fun j b o=>zme h
theorem yib (f:Nat):(∀(t:TypeId) (x y:SV) (G:Bool→(β→Prop)→Prop),(∀v,Ret (G v))→Ret (fun k=>eqK Γ f t x y fun v=>G v k))∧
    (∀(fs:List (Nat×TypeId)) (xs ys:List SV) (G:Bool→(β→Prop)→Prop),(∀v,Ret (G v))→Ret (fun k=>zoq Γ f fs xs ys fun v=>G v k)):=by
  induction f with
  |zero=>exact ⟨fun t x y G h=>by simp only [eqK];exact zf,fun fs xs ys G h=>by simp only [zoq];exact zf⟩
  |succ f ih=>
   refine ⟨fun t x y G h=>?_,fun fs xs ys G h=>?_⟩
   ·intro k hk
    simp only [eqK] at hk ⊢
    revert k
    refine yo (G:=fun ti k=>_) fun ti=>?_
    obtain ⟨d,sz,bytes,zero,eqOk⟩:=ti
    dsimp only
    cases d
    case int kd=>cases kd<;>first|exact zf|(cases x<;>first|exact zf|(cases y<;>first|exact zf|exact h _))
    case arr n e=>
      refine yo (G:=fun ei k=>_) fun ei=>?_
      obtain ⟨d,sz,bytes,zero,eqOk⟩:=ei
      dsimp only
      cases d
      case int kd=>
        cases kd<;>first
          |exact zf
          |(cases x<;>first
             |exact zf
             |(cases y<;>first
                |exact zf
                |(rename_i m a m' b
                  dsimp only
                  generalize Nat.beq m n=t
                  generalize Nat.beq m' n=t'
                  cases t
                  ·exact zf
                  ·cases t'
                   ·exact zf
                   ·exact h _)))
      all_goals exact zf
    case struct fs=>
      cases eqOk
      ·exact zf
      ·dsimp only
       generalize x.many=t
       generalize y.many=t'
       cases t
       ·exact zf
       ·cases t'
        ·exact zf
        ·exact zfp fun xs=>zfp fun ys=>ih.2 _ _ _ _ h
    all_goals first|exact zf|(cases x<;>first|exact zf|(cases y<;>first|exact zf|exact h _))
   ·cases fs with
    |nil=>simp only [zoq];exact h _
    |cons p fs=>
     obtain ⟨c,t⟩:=p
     simp only [zoq]
     exact yo fun ti=>znm fun a=>znm fun b=>ih.1 _ _ _ (fun r k=>zoq Γ f fs xs ys fun r'=>G (r&&r') k) fun r=>ih.2 _ _ _ (fun r' k=>G (r&&r') k) fun r'=>h _
theorem yam {f:Nat} {t:TypeId} {x y:SV} {G:Bool→(β→Prop)→Prop} (h: ∀v,Ret (G v)):Ret (fun k=>eqK Γ f t x y fun v=>G v k):=(yib f).1 t x y G h
theorem z7i {op:BinOp} {t:TypeId} {x y:SV} {G:SV→(β→Prop)→Prop} (h: ∀v,Ret (G v)):Ret (fun k=>zyn Γ op t x y fun v=>G v k):=by
  have go: ∀(g:Bool→SV),Ret (fun k=>match (generalizing:=false) x.many with
   |true=>ym Γ.ty t fun ti=>match (generalizing:=false) ti.eqOk with|true=>eqK Γ 60 t x y (fun r=>G (g r) k)|false=>False
   |false=>eqK Γ 60 t x y (fun r=>G (g r) k)):=fun g=>by
    generalize x.many=m
    cases m
    ·exact yam (G:=fun r=>G (g r)) fun r=>h _
    ·refine yo (G:=fun (ti:TyI) k=>match (generalizing:=false) ti.eqOk with|true=>eqK Γ 60 t x y (fun r=>G (g r) k)|false=>False) fun ti=>?_
     generalize ti.eqOk=q
     cases q
     ·exact zf
     ·exact yam (G:=fun r=>G (g r)) fun r=>h _
  have big:Ret (fun k=>match (generalizing:=false) op with
    | .eql=>match (generalizing:=false) x.many with
      |true=>ym Γ.ty t fun ti=>match (generalizing:=false) ti.eqOk with|true=>eqK Γ 60 t x y (fun r=>G (.bool r) k)|false=>False
      |false=>eqK Γ 60 t x y (fun r=>G (.bool r) k)
    | .neq=>match (generalizing:=false) x.many with
      |true=>ym Γ.ty t fun ti=>match (generalizing:=false) ti.eqOk with|true=>eqK Γ 60 t x y (fun r=>G (.bool (!r)) k)|false=>False
      |false=>eqK Γ 60 t x y (fun r=>G (.bool (!r)) k)
    |_=>False):=by
    cases op<;>first|exact zf|exact go (fun r=> .bool r)|exact go (fun r=> .bool (!r))
  cases x<;>first|exact yc3 h|exact big
theorem z49 {l:List UInt8} {lo hi:Option Nat} {G:SV→(β→Prop)→Prop} (h: ∀v,Ret (G v)):Ret (fun k=>zwl l lo hi fun v=>G v k):=by
  cases lo<;>cases hi<;>first|exact h _|exact yq (h _)
theorem zuu {k j b:Nat} {o:List (Nat×Nat)} {n c es:Nat} {lo hi mx:Option Nat} {G:SV→(β→Prop)→Prop} (h: ∀v,Ret (G v)):Ret (fun K=>zmq k j b o n c es lo hi mx fun v=>G v K):=by
  cases lo<;>cases hi<;>cases mx<;>first|exact zf|exact h _|exact yq (h _)|exact yq (yq (h _))
theorem z2v {t:TypeId} {x:SV} {lo hi mx:Option Nat} {G:SV→(β→Prop)→Prop} (h: ∀v,Ret (G v)):Ret (fun K=>zst Γ t x lo hi mx fun v=>G v K):=by
  cases x
  case str l=>
    refine yo (G:=fun ti K=>_) fun ti=>?_
    obtain ⟨d,sz,bytes,zero,eqOk⟩:=ti
    cases d<;>first|exact zf|(cases mx<;>first|exact zf|exact z49 h)
  case nilsl=>
    refine yo (G:=fun ti K=>_) fun ti=>?_
    obtain ⟨d,sz,bytes,zero,eqOk⟩:=ti
    cases d<;>first|exact zf|(refine yo (G:=fun ti K=>_) fun ti=>?_;cases hi<;>cases mx<;>first|exact zf|exact yq (h _))
  case sl k j b o n c=>
    refine yo (G:=fun ti K=>_) fun ti=>?_
    obtain ⟨d,sz,bytes,zero,eqOk⟩:=ti
    cases d<;>first|exact zf|exact yo fun ei=>zuu h
  case ptr k j b o=>
    refine yo (G:=fun ti K=>_) fun ti=>?_
    obtain ⟨d,sz,bytes,zero,eqOk⟩:=ti
    cases d<;>first|exact zf|exact yo fun ei=>zuu h
  all_goals exact zf
theorem yas {z:SV} {n:Nat} {G:List SV→(β→Prop)→Prop} (h: ∀v,Ret (G v)):Ret (fun K=>zwn z n fun v=>G v K):=by
  induction n generalizing G with
  |zero=>exact h _
  |succ n ih=>exact ih (G:=fun l=>G (z ::l)) fun l=>h _
theorem zzw {z:SV} {n:Nat} {G:List SV→(β→Prop)→Prop} (h: ∀v,Ret (G v)):Ret (fun K=>zu1 z n fun v=>G v K):=by
  cases z
  case arr8 m l=>cases l<;>first|exact zf|exact yq (h _)
  case agg ps=>
    refine zve (G:=fun as K=>match (generalizing:=false) as with| []=>False|a ::r=>G [.tab n (r.length+1) fun _=>a ::r] K) fun as=>?_
    cases as
    ·exact zf
    ·exact h _
  all_goals first|exact zf|exact h _|exact yas h
theorem zvs {ei:TyI} {ps:List SV} {i:Nat} {v:SV} {G:List SV→(β→Prop)→Prop} (h: ∀v,Ret (G v)):Ret (fun K=>zhc ei ps i v fun v=>G v K):=by
  have w:Ret (fun K=>zhd ps 0 0 (i*ei.sz) fun j b o=>zfh ei ps j b o v fun v=>G v K):=zl4 fun j b o=>zpb h
  match ps,w with
  | [],w=>exact w
  | [p],w=>
    dsimp only [zhc]
    generalize p.isRow=t
    cases t
    ·exact w
    ·exact zpb h
  |p ::q ::r,w=>exact w
theorem zlu {ei:TyI} {ps:List SV} {g:List (Nat×SV)} {G:List SV→(β→Prop)→Prop} (h: ∀v,Ret (G v)):Ret (fun K=>zex ei ps g fun v=>G v K):=by
  induction g generalizing ps with
  |nil=>exact h _
  |cons p r ih=>obtain ⟨i,v⟩:=p;exact zvs fun ps'=>ih
theorem zrr {fs:List (Nat×TypeId)} {ps:List SV} {g:List (Nat×SV)} {G:List SV→(β→Prop)→Prop} (h: ∀v,Ret (G v)):Ret (fun K=>zdy Γ fs ps g fun v=>G v K):=by
  induction g generalizing ps with
  |nil=>exact h _
  |cons p r ih=>obtain ⟨i,v⟩:=p;exact zk6 fun ft=>yo fun fi=>zl4 fun j b o=>zpb fun ps'=>ih
theorem z2e {fs:List (Nat×TypeId)} {F:(β→Prop)→Prop} (h:Ret F):Ret (fun K=>zor Γ fs (F K)):=by
  induction fs with
  |nil=>exact h
  |cons p r ih=>obtain ⟨i,v⟩:=p;exact yo fun _=>ih
theorem z2k {t:TypeId} {g:List (Nat×SV)} {G:SV→(β→Prop)→Prop} (h: ∀v,Ret (G v)):Ret (fun K=>zr5 Γ t g fun v=>G v K):=by
  refine yo (G:=fun ti K=>_) fun ti=>?_
  obtain ⟨d,sz,bytes,zero,eqOk⟩:=ti
  dsimp only
  generalize zero.many=m
  cases m
  ·exact zf
  ·refine zfp (G:=fun zs K=>_) fun zs=>?_
   cases d
   case struct fs=>exact z2e (zrr (G:=fun ps=>G (.agg ps)) fun ps=>h _)
   case arr n e=>exact yo fun ei=>zlu fun ps=>zyy h
   all_goals exact zf
theorem z9u (op:Op) (tm:List (Nat×SV)):Ret (fun k=>xy Γ op tm k):=by
  have hk: ∀v:SV,Ret (fun k:SV→Prop=>k v):=fun v=>z26 v
  cases op
  case move x=>exact zao (G:=fun v k=>k v) hk
  case assign x=>exact zao (G:=fun v k=>k v) hk
  case pick c x y=>
    refine zao (G:=fun cv K=>_) fun cv=>zao (G:=fun av K=>_) fun av=>zao (G:=fun bv K=>_) fun bv=>?_
    cases cv<;>first|exact zf|exact z46 (hk _) (hk _)
  case build t ps=>exact zpt fun g=>z2k hk
  case nilCheck x=>
    refine zao (G:=fun v K=>_) fun v=>?_
    cases v<;>first|exact zf|exact hk _
  case binOp op t x y t'=>exact zao fun a=>zao fun b=>z7i hk
  case unOp op t x=>exact zao fun a=>yfb hk
  case slice t x lo hi mx=>exact zao fun v=>zlc fun lo=>zlc fun hi=>zlc fun mx=>z2v hk
  case field s x f=>
    refine yo (G:=fun ti K=>_) fun ti=>?_
    obtain ⟨d,sz,bytes,zero,eqOk⟩:=ti
    cases d
    case struct fs=>
      refine zk6 (G:=fun ft K=>_) fun ft=>yo (G:=fun fi K=>_) fun fi=>zao (G:=fun v K=>_) fun v=>?_
      try dsimp only
      generalize v.many=m
      cases m
      ·exact zf
      ·exact zfp fun ps=>znm hk
    all_goals exact zf
  case indexAddr t x i=>
    refine yo (G:=fun ti K=>_) fun ti=>zao (G:=fun v K=>_) fun v=>zao (G:=fun iv K=>_) fun iv=>zok (G:=fun ix K=>_) fun ix=>?_
    obtain ⟨d,sz,bytes,zero,eqOk⟩:=ti
    cases d
    case arr n e=>
      refine yo (G:=fun ei K=>_) fun ei=>?_
      cases v<;>first|exact zf|exact yq (hk _)
    case sl e=>
      refine yo (G:=fun ei K=>_) fun ei=>?_
      cases v<;>first|exact zf|exact yq (hk _)
    all_goals exact zf
  case index t x i=>
    refine yo (G:=fun ti K=>_) fun ti=>zao (G:=fun v K=>_) fun v=>zao (G:=fun iv K=>_) fun iv=>zok (G:=fun ix K=>_) fun ix=>?_
    obtain ⟨d,sz,bytes,zero,eqOk⟩:=ti
    cases v
    case str l=>cases d<;>first|exact zf|exact yq (hk _)
    all_goals (cases d<;>first|exact zf|exact yo fun ei=>zf|exact yo fun ei=>yq (zme hk))
  case makeFunc fn first caps=>
    refine z2c (G:=fun vs K=>_) fun vs=>?_
    cases fn
    case func f=>
      dsimp only
      generalize first.toList=fl
      cases fl<;>first|exact zf|exact hk _
    all_goals exact zf
  case extract x i=>
    refine zao (G:=fun v K=>_) fun v=>?_
    cases v<;>first|exact zf|exact zk6 hk
  case convert s d x=>
    refine yo (G:=fun si K=>_) fun si=>yo (G:=fun di K=>_) fun di=>?_
    obtain ⟨d,sz,bytes,zero,eqOk⟩:=di
    cases d<;>first|exact zf|exact zao fun v=>zxq hk
  case call c=>
    obtain ⟨callee,args,argTypes⟩:=c
    refine z2c (G:=fun vs K=>_) fun vs=>?_
    dsimp only
    cases callee
    case builtin b=>
      cases b
      case len=>
        dsimp only
        generalize argTypes.toList=ats
        match ats with
        | []=>exact zf
        | [t]=>
          refine yo (G:=fun ti K=>_) fun ti=>?_
          obtain ⟨d,sz,bytes,zero,eqOk⟩:=ti
          dsimp only
          cases d
          case str=>
            match vs with
            | []=>exact zf
            | [v]=>cases v<;>first|exact zf|exact hk _
            |v ::u ::r=>cases v<;>exact zf
          case sl e=>
            match vs with
            | []=>exact zf
            | [v]=>cases v<;>first|exact zf|exact hk _
            |v ::u ::r=>cases v<;>exact zf
          case arr n e=>
            match vs with
            | []=>exact zf
            | [v]=>exact hk _
            |v ::u ::r=>exact zf
          all_goals exact zf
        |_ ::_ ::_=>exact zf
      case min=>
        match vs with
        | []=>exact zf
        | [v]=>cases v<;>exact zf
        | [v,u]=>cases v<;>first|exact zf|(cases u<;>first|exact zf|exact hk _)
        | [v,u,x]=>cases v<;>first|exact zf|(cases u<;>first|exact zf|(cases x<;>first|exact zf|exact hk _))
        |v ::u ::x ::y ::r=>cases v<;>first|exact zf|(cases u<;>first|exact zf|(cases x<;>exact zf))
      case max=>
        match vs with
        | []=>exact zf
        | [v]=>cases v<;>exact zf
        | [v,u]=>cases v<;>first|exact zf|(cases u<;>first|exact zf|exact hk _)
        | [v,u,x]=>cases v<;>first|exact zf|(cases u<;>first|exact zf|(cases x<;>first|exact zf|exact hk _))
        |v ::u ::x ::y ::r=>cases v<;>first|exact zf|(cases u<;>first|exact zf|(cases x<;>exact zf))
      all_goals exact zf
    all_goals exact zf
  all_goals exact zf
theorem zyi (op:Op) (tm:List (Nat×SV)) (hp:List Blk):Ret (fun k=>zes Γ op tm hp k):=by
  have hk: ∀v:SV,Ret (fun k:SV→Prop=>k v):=fun v=>z26 v
  cases op
  case load t x=>
    refine yo (G:=fun ti K=>_) fun ti=>zao (G:=fun v K=>_) fun v=>?_
    cases v<;>first|exact zf|exact znk fun _ ps=>zme hk|exact z8u
  case fieldAddr s x f=>
    refine yo (G:=fun ti K=>_) fun ti=>?_
    obtain ⟨d,sz,bytes,zero,eqOk⟩:=ti
    cases d
    case struct fs=>
      refine zk6 (G:=fun ft K=>_) fun ft=>yo (G:=fun fi K=>_) fun fi=>?_
      obtain ⟨d,sz,bytes,zero,eqOk⟩:=fi
      obtain ⟨c,t⟩:=ft
      cases sz
      ·exact zf
      ·refine zao (G:=fun v K=>_) fun v=>?_
       cases v
       case xptr A=>exact hk _
       case ptr k j b oo=>
         cases c
         ·exact hk _
         ·cases oo
          ·exact znk fun _ ps=>zjp fun _ r=>zl4 (G:=fun j' b' o' (K:SV→Prop)=>K (SV.ptr k j' b' o')) fun _ _ _=>hk _
          ·exact hk _
       all_goals exact zf
    all_goals exact zf
  case convert s d x=>
    refine yo (G:=fun si K=>_) fun si=>yo (G:=fun di K=>_) fun di=>?_
    obtain ⟨ds,szs,bytess,zeros,eqOks⟩:=si
    obtain ⟨d,sz,bytes,zero,eqOk⟩:=di
    cases d
    case str=>
      refine zao (G:=fun v K=>_) fun v=>?_
      cases v
      case str l=>exact hk _
      case nilsl=>
        cases ds
        case sl e=>
          refine yo (G:=fun ei K=>_) fun ei=>?_
          obtain ⟨d,sz,bytes,zero,eqOk⟩:=ei
          cases d
          case int kd=>cases kd<;>first|exact zf|exact hk _
          all_goals exact zf
        all_goals exact zf
      case sl k j b o n c=>
        cases ds
        case sl e=>
          refine yo (G:=fun ei K=>_) fun ei=>?_
          obtain ⟨d,sz,bytes,zero,eqOk⟩:=ei
          cases d
          case int kd=>cases kd<;>first|exact zf|exact z3b (G:=fun l (K:SV→Prop)=>K (SV.str l)) fun l=>hk _
          all_goals exact zf
        all_goals exact zf
      all_goals exact zf
    all_goals exact zf
  all_goals exact zf
theorem z5t (op:Op) (tm:List (Nat×SV)) (m:Nat):Ret (fun k:SV×Blk→Prop=>zch Γ op tm m fun v b=>k (v,b)):=by
  have hk: ∀v b,Ret (fun k:SV×Blk→Prop=>k (v,b)):=fun v b=>z26 (v,b)
  cases op
  case alloc t=>exact yo fun ti=>zfp fun ps=>hk _ _
  case box t x=>exact zao fun v=>zfp fun ps=>hk _ _
  case buildSlice t n ps=>
    refine zpt (G:=fun g K=>_) fun g=>yo (G:=fun ti K=>_) fun ti=>?_
    obtain ⟨d,sz,bytes,zero,eqOk⟩:=ti
    cases d<;>first|exact zf|exact yo fun ei=>yq (zzw fun zs=>zlu fun ps=>hk _ _)
  case makeSlice t x y=>
    refine zao (G:=fun lv K=>_) fun lv=>zao (G:=fun cv K=>_) fun cv=>zok (G:=fun l K=>_) fun l=>zok (G:=fun c K=>_) fun c=>yo (G:=fun ti K=>_) fun ti=>?_
    obtain ⟨d,sz,bytes,zero,eqOk⟩:=ti
    cases d<;>first|exact zf|exact yo fun ei=>yq (zzw fun zs=>hk _ _)
  all_goals exact zf
end
end Go.Sym

namespace Go.Sym
structure PStep where
  i:Nat
  loose:List Nat
inductive LateK where
  |pure|read (M:List Nat)|maker (b:Nat)
structure Late where
  i:Nat
  o:Oper
  v:SV
  k:LateK
def zpk (v u:SV) (p:Prop):Prop:=v=u∧p
attribute [irreducible] zpk
theorem zb {v:SV} {p:Prop} (h:p):zpk v v p:=by unfold zpk;exact ⟨rfl,h⟩
theorem zo6 {v u:SV} {p:Prop} (h:zpk v u p):v=u∧p:=by unfold zpk at h;exact h
def zb3 (L:List Nat):List Late→(List Nat→Prop)→Prop
  | [],k=>k []
  |x ::xs,k=>match x.k with
   | .maker b=>match zbe L x.i with|true=>zb3 L xs fun M=>k (b ::M)|false=>zb3 L xs k
   |_=>zb3 L xs k
def zlv:List Nat→List Blk→(List Blk→Prop)→Prop
  | [],hp,k=>k hp
  |m ::M,hp,k=>zjd hp m .dead fun hp'=>zlv M hp' k
def zft (hp:List Blk):List Nat→List Blk→(List Blk→Prop)→Prop
  | [],hp',k=>k hp'
  |m ::M,hp',k=>ze2 hp m fun b=>zjd hp' m b fun hp''=>zft hp M hp'' k
def zuz (M:List Nat):List Nat→Bool
  | []=>true
  |x ::xs=>match zbe M x with|true=>false|false=>zuz M xs
def ze3 (M:List Nat) (v:SV) (p:Prop):Prop:=
  match M with
  | []=>p
  |_ ::_=>match zuz M v.ks with|true=>p|false=>False
def zd0 (M:List Nat):List Blk→Prop→Prop
  | [],p=>p
  |b ::bs,p=>match M with
   | []=>p
   |_ ::_=>match b with
    | .dead=>zd0 M bs p
    | .mk _ ps=>match zuz M (ksL ps) with|true=>zd0 M bs p|false=>False
def reK (Γ:Ctx) (tm:List (Nat×SV)) (hp:List Blk) (L:List Nat):List Late→Prop→Prop
  | [],p=>p
  |x ::xs,p=>match x.k with
   | .read M=>match zbe L x.i with
     |true=>zlv M hp fun hm=>zes Γ x.o.op tm hm fun v=>zpk v x.v (reK Γ tm hp L xs p)
     |false=>reK Γ tm hp L xs p
   |_=>reK Γ tm hp L xs p
def addM (b:Nat):List Late→List Late
  | []=> []
  |x ::xs=>(match x.k with| .read M=>⟨x.i,x.o,x.v,.read (b ::M)⟩|_=>x) ::addM b xs
def zku (all:List Oper) (o:Oper) (tm:List (Nat×SV)) (yes no:Prop):Prop:=
  match o.guard with
  |none=>yes
  |some (j,want)=>ze2 all j fun g=>match g.dst with
   |some d=>ym tm d fun v=>match v with
    | .bool t=>zx (t==want) yes no
    | .tup _=>no
    |_=>False
   |none=>False
noncomputable def zev (Γ:Ctx) (all:List Oper) (steps:List PStep):List Late→List (Nat×SV)→List Blk→(St→Prop)→Prop:=
  List.rec (motive:=fun _=>List Late→List (Nat×SV)→List Blk→(St→Prop)→Prop) (fun _ tm hp K=>K ⟨tm,hp⟩) (fun s _ ih late tm hp K=>ze2 all s.i fun o=>zku all o tm
    (match zbf Γ o.op with
      | .pure=>xy Γ o.op tm fun v=>zb3 s.loose late fun M=>ze3 M v (zdt Γ.nt tm hp o.dst v fun st=>match st with|⟨tm',hp'⟩=>ih (⟨s.i,o,v,.pure⟩ ::late) tm' hp' K)
      | .read=>zb3 s.loose late fun M=>zlv M hp fun hm=>zes Γ o.op tm hm fun v=>ze3 M v (zdt Γ.nt tm hp o.dst v fun st=>match st with|⟨tm',hp'⟩=>ih (⟨s.i,o,v,.read M⟩ ::late) tm' hp' K)
      | .maker=>zb3 s.loose late fun M=>zjc hp fun n=>zch Γ o.op tm n fun v b=>match b with
        | .mk el ps=>ze3 M (.agg ps) (zf2 hp (.mk el ps) fun hp1=>zdt Γ.nt tm hp1 o.dst v fun st=>match st with|⟨tm',hp'⟩=>ih (⟨s.i,o,v,.maker n⟩ ::addM n late) tm' hp' K)
        | .dead=>False
      | .anchor=>zb3 s.loose late fun M=>zlv M hp fun hm=>zb2 Γ o.op tm hm
          (fun v hp1=>ze3 M v (zd0 M hp1 (zft hp M hp1 fun hp2=>zdt Γ.nt tm hp2 o.dst v fun st=>match st with|⟨tm',hp'⟩=>reK Γ tm' hp' s.loose late (ih late tm' hp' K))))
          (fun hp1=>zd0 M hp1 (zft hp M hp1 fun hp2=>match o.dst with
            |none=>reK Γ tm hp2 s.loose late (ih late tm hp2 K)
            |some _=>False)))
    (zdt Γ.nt tm hp o.dst (.tup []) fun st=>match st with|⟨tm',hp'⟩=>ih (⟨s.i,o,.tup [],.pure⟩ ::late) tm' hp' K)) steps
theorem z1o (Γ:Ctx) (all:List Oper) (s:PStep) (ss:List PStep) (late:List Late) (tm:List (Nat×SV)) (hp:List Blk) (K:St→Prop):zev Γ all (s ::ss) late tm hp K=ze2 all s.i fun o=>zku all o tm
    (match zbf Γ o.op with
      | .pure=>xy Γ o.op tm fun v=>zb3 s.loose late fun M=>ze3 M v (zdt Γ.nt tm hp o.dst v fun st=>match st with|⟨tm',hp'⟩=>zev Γ all ss (⟨s.i,o,v,.pure⟩ ::late) tm' hp' K)
      | .read=>zb3 s.loose late fun M=>zlv M hp fun hm=>zes Γ o.op tm hm fun v=>ze3 M v (zdt Γ.nt tm hp o.dst v fun st=>match st with|⟨tm',hp'⟩=>zev Γ all ss (⟨s.i,o,v,.read M⟩ ::late) tm' hp' K)
      | .maker=>zb3 s.loose late fun M=>zjc hp fun n=>zch Γ o.op tm n fun v b=>match b with
        | .mk el ps=>ze3 M (.agg ps) (zf2 hp (.mk el ps) fun hp1=>zdt Γ.nt tm hp1 o.dst v fun st=>match st with|⟨tm',hp'⟩=>zev Γ all ss (⟨s.i,o,v,.maker n⟩ ::addM n late) tm' hp' K)
        | .dead=>False
      | .anchor=>zb3 s.loose late fun M=>zlv M hp fun hm=>zb2 Γ o.op tm hm
          (fun v hp1=>ze3 M v (zd0 M hp1 (zft hp M hp1 fun hp2=>zdt Γ.nt tm hp2 o.dst v fun st=>match st with|⟨tm',hp'⟩=>reK Γ tm' hp' s.loose late (zev Γ all ss late tm' hp' K))))
          (fun hp1=>zd0 M hp1 (zft hp M hp1 fun hp2=>match o.dst with
            |none=>reK Γ tm hp2 s.loose late (zev Γ all ss late tm hp2 K)
            |some _=>False)))
    (zdt Γ.nt tm hp o.dst (.tup []) fun st=>match st with|⟨tm',hp'⟩=>zev Γ all ss (⟨s.i,o,.tup [],.pure⟩ ::late) tm' hp' K):=rfl
def x1 (o:Oper):List Nat:=(o.after.toList.filter (Region.binds .any)).map (·.on)
abbrev Table:=List (Nat×Nat)
def zp6 (T:Table) (i:Nat):Nat:=
  match T with
  | []=>0
  |(j,m) ::r=>if Nat.beq j i then m else zp6 r i
def ze5 (T:Table):List Nat→Nat
  | []=>0
  |e ::es=>(Nat.lor (Nat.lor (Nat.shiftLeft 1 e) (zp6 T e)) (ze5 T es))
def zro (ops:Array Oper) (s:PStep) (o:Oper) (m:Nat):List PStep→Bool
  | []=>true
  |x ::xs=>(match zbe s.loose x.i with
     |true=>match ops[x.i]? with|some y=>y.apart ops o|none=>false
     |false=>Nat.testBit m x.i)&&zro ops s o m xs
def zll (ops:Array Oper) (Γ:Ctx) (L:List Nat):List PStep→List (Option Nat)→Bool
  | [],_=>true
  |x ::xs,ds=>(match ops[x.i]? with
     |some y=>(match zbf Γ y.op,zbe L x.i with
      | .read,true=>(y.dst ::ds).all fun d=>match d with|some d=>!(y.looksAt ops).contains d|none=>true
      |_,_=>true)&&zll ops Γ L xs (y.dst ::ds)
     |none=>false)
def zsn (i:Nat):List PStep→Bool
  | []=>false
  |x ::xs=>Nat.beq x.i i||zsn i xs
def zet (ops:Array Oper) (Γ:Ctx):List PStep→List PStep→Table→Bool
  |_,[],_=>true
  |pre,s ::ss,T=>match ops[s.i]? with
   |none=>false
   |some o=>
    let m:=ze5 T (x1 o)
    !zsn s.i pre&&(x1 o).all (fun e=>zsn e pre)&&zro ops s o m pre&&
    (match zbf Γ o.op with
      | .anchor=>ss.all (fun t=>match ops[t.i]? with|some u=>(x1 u).any fun e=>!zsn e pre|none=>false)&&zll ops Γ s.loose pre [o.dst]
      |_=>true)&&zet ops Γ (s ::pre) ss ((s.i,m) ::T)
def zlk (ops:Array Oper) (Γ:Ctx) (steps:List PStep):Bool:=
  Region.noSelect ops&&(List.range ops.size).all (fun i=>zsn i steps)&&zet ops Γ [] steps []
end Go.Sym
