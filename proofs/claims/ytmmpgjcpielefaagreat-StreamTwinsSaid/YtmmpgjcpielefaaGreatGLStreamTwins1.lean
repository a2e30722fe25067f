/-
  The symbolic engine, part 3: operations, calls, code. No program in sight; no condition.
-/
import Derived.Test.YtmmpgjcpielefaaGreatGLStreamTwins0
set_option linter.unusedSimpArgs false
set_option linter.unusedVariables false
namespace Go.Sym
def zsu (v:SV) (k:Nat→Prop):Prop:=
  match v with
  | .int n=>Pre (0≤n) (k n.toNat)
  | .u8 x=>k x.toNat
  | .u16 x=>k x.toNat
  | .u32 x=>k x.toNat
  | .u64 x=>k x.toNat
  |_=>False
def zgl (tm:List (Nat×SV)) (x:Option Operand) (k:Option Nat→Prop):Prop:=
  match x with
  |none=>k none
  |some x=>evK tm x fun v=>zsu v fun n=>k (some n)
def zhx (tm:List (Nat×SV)):List (Nat×Operand)→(List (Nat×SV)→Prop)→Prop
  | [],k=>k []
  |(i,x) ::r,k=>evK tm x fun v=>zhx tm r fun l=>k ((i,v) ::l)
def zc0 (hp:List Blk) (k:Nat) (K:TypeId→List SV→Prop):Prop:=
  zdi hp k fun b=>match b with| .mk el ps=>K el ps| .dead=>False
def zlt (hp:List Blk) (b:Blk) (K:Nat→List Blk→Prop):Prop:=
  zi1 hp fun n=>ze0 hp b fun hp'=>K n hp'
def z1t (hp:List Blk) (k j b:Nat) (K:SV→Prop):Prop:=
  zc0 hp k fun _ ps=>zbh ps j b fun _ r=>match r with|p ::_=>K p| []=>False
def zg8 (hp:List Blk) (v:SV) (K:List UInt8→Prop):Prop:=
  match v with
  | .str l=>K l
  | .nilsl=>K []
  | .sl k j b o n _=>z1t hp k j b fun p=>match p with
    | .arr8 _ l=>Pre (off o+n≤l.length) (K ((l.drop (off o)).take n))
    |_=>False
  |_=>False
def zgb (fi:TyI) (ps:List SV) (c:Nat) (k:SV→Prop):Prop:=
  match c with
  |0=>zk3 fi ps 0 0 [] k
  |c+1=>zfz ps 0 0 (c+1) fun j b o=>zk3 fi ps j b o k
mutual
def eqK (Γ:Ctx):Nat→TypeId→SV→SV→(Bool→Prop)→Prop
  |0,_,_,_,_=>False
  |f+1,t,x,y,k=>yf Γ.ty t fun ti=>match ti.d with
   | .int .i64=>match x,y with| .int a,.int b=>k (decide (a=b))|_,_=>False
   | .int .u8=>match x,y with| .u8 a,.u8 b=>k (decide (a=b))|_,_=>False
   | .int .u16=>match x,y with| .u16 a,.u16 b=>k (decide (a=b))|_,_=>False
   | .int .u32=>match x,y with| .u32 a,.u32 b=>k (decide (a=b))|_,_=>False
   | .int .u64=>match x,y with| .u64 a,.u64 b=>k (decide (a=b))|_,_=>False
   | .bool=>match x,y with| .bool a,.bool b=>k (a==b)|_,_=>False
   | .str=>match x,y with| .str a,.str b=>k (decide (a=b))|_,_=>False
   | .ptr=>match x,y with| .nilptr,.nilptr=>k true| .nilptr,.ptr .. =>k false| .ptr ..,.nilptr=>k false|_,_=>False
   | .sl _=>match x,y with| .nilsl,.nilsl=>k true| .nilsl,.sl .. =>k false| .sl ..,.nilsl=>k false|_,_=>False
   | .func=>match x,y with| .nilfn,.nilfn=>k true| .nilfn,.func .. =>k false| .func ..,.nilfn=>k false|_,_=>False
   | .arr n e=>yf Γ.ty e fun ei=>match ei.d with
     | .int .u64=>match x,y with| .arr64 m a,.arr64 m' b=>(match Nat.beq m n with|true=>(match Nat.beq m' n with|true=>k (decide (a=b))|false=>False)|false=>False)|_,_=>False
     | .int .u32=>match x,y with| .arr32 m a,.arr32 m' b=>(match Nat.beq m n with|true=>(match Nat.beq m' n with|true=>k (decide (a=b))|false=>False)|false=>False)|_,_=>False
     | .int .u8=>match x,y with| .arr8 m a,.arr8 m' b=>(match Nat.beq m n with|true=>(match Nat.beq m' n with|true=>k (decide (a=b))|false=>False)|false=>False)|_,_=>False
     | .int .i64=>match x,y with| .arri m a,.arri m' b=>(match Nat.beq m n with|true=>(match Nat.beq m' n with|true=>k (decide (a=b))|false=>False)|false=>False)|_,_=>False
     |_=>False
   | .struct fs=>match ti.eqOk with
     |true=>match x.many with
      |true=>match y.many with
       |true=>zbp x fun xs=>zbp y fun ys=>zla Γ f fs xs ys k
       |false=>False
      |false=>False
     |false=>False
   |_=>False
def zla (Γ:Ctx):Nat→List (Nat×TypeId)→List SV→List SV→(Bool→Prop)→Prop
  |0,_,_,_,_=>False
  |_+1,[],_,_,k=>k true
  |f+1,(c,t) ::fs,xs,ys,k=>yf Γ.ty t fun ti=>zgb ti xs c fun a=>zgb ti ys c fun b=>
    eqK Γ f t a b fun r=>zla Γ f fs xs ys fun r'=>k (r&&r')
end
def zvs (Γ:Ctx) (op:BinOp) (t:TypeId) (x y:SV) (k:SV→Prop):Prop:=
  match x with
  | .int _| .u8 _| .u16 _| .u32 _| .u64 _| .str _=>zyf op x y k
  |_=>
   let go (k:Bool→Prop):Prop:=match x.many with
     |true=>yf Γ.ty t fun ti=>match ti.eqOk with|true=>eqK Γ 60 t x y k|false=>False
     |false=>eqK Γ 60 t x y k
   match op with
   | .eql=>go fun r=>k (.bool r)
   | .neq=>go fun r=>k (.bool (!r))
   |_=>False
def ztj (l:List UInt8) (lo hi:Option Nat) (K:SV→Prop):Prop:=
  match lo,hi with
  |none,none=>K (.str l)
  |none,some h=>Pre (h≤l.length) (K (.str (l.take h)))
  |some a,none=>Pre (a≤l.length) (K (.str (l.drop a)))
  |some a,some h=>Pre (a≤h∧h≤l.length) (K (.str ((l.drop a).take (h-a))))
def slO (m a:Nat):Nat:=if m=a then 0 else a
attribute [irreducible] slO
def zmb (k j b:Nat) (o:List (Nat×Nat)) (n c es:Nat) (lo hi mx:Option Nat) (K:SV→Prop):Prop:=
  let go (m h:Nat):Prop:=match lo with
    |none=>K (.sl k j b o h m)
    |some a=>Pre (a≤h) (K (.sl k j b (yb o (slO m a) es) (h-a) (m-a)))
  match hi,mx with
  |none,none=>go c n
  |some h,none=>Pre (h≤c) (go c h)
  |some h,some m=>Pre (h≤m∧m≤c) (go m h)
  |none,some _=>False
def zm7 (x:Option Nat):Prop:=match x with|none=>True|some n=>n=0
def zpy (Γ:Ctx) (t:TypeId) (x:SV) (lo hi mx:Option Nat) (K:SV→Prop):Prop:=
  match x with
  | .str l=>yf Γ.ty t fun ti=>match ti.d with
    | .str=>match mx with|none=>ztj l lo hi K|some _=>False
    |_=>False
  | .nilsl=>yf Γ.ty t fun ti=>match ti.d with
    | .sl e=>yf Γ.ty e fun _=>match hi,mx with|none,some _=>False|_,_=>Pre (zm7 lo∧zm7 hi∧zm7 mx) (K .nilsl)
    |_=>False
  | .sl k j b o n c=>yf Γ.ty t fun ti=>match ti.d with
    | .sl e=>yf Γ.ty e fun ei=>zmb k j b o n c ei.sz lo hi mx K
    |_=>False
  | .ptr k j b o=>yf Γ.ty t fun ti=>match ti.d with
    | .arr n e=>yf Γ.ty e fun ei=>zmb k j b o n n ei.sz lo hi mx K
    |_=>False
  |_=>False
def zth (z:SV):Nat→(List SV→Prop)→Prop
  |0,k=>k []
  |n+1,k=>zth z n fun l=>k (z ::l)
def zr9 (z:SV) (c:Nat) (K:List SV→Prop):Prop:=
  match z with
  | .u8 x=>K [.arr8 c (List.replicate c x)]
  | .u32 x=>K [.arr32 c (List.replicate c x)]
  | .u64 x=>K [.arr64 c (List.replicate c x)]
  | .int x=>K [.arri c (List.replicate c x)]
  | .str x=>K [.arrs c (List.replicate c x)]
  | .bool x=>K [.tab c 1 fun _=> [.bool x]]
  | .arr8 m (x ::l)=>Pre (x ::l=List.replicate m x) (K [.arr8 (c*m) (List.replicate (c*m) x)])
  | .agg ps=>zi8 ps fun as=>match as with| []=>False|a ::r=>K [.tab c (r.length+1) fun _=>a ::r]
  | .nilsl=>zth .nilsl c K
  | .nilptr=>zth .nilptr c K
  | .nilif=>zth .nilif c K
  | .nilfn=>zth .nilfn c K
  |_=>False
def zf2 (ei:TyI) (ps:List SV) (i:Nat) (v:SV) (k:List SV→Prop):Prop:=
  let walk:Prop:=zfz ps 0 0 (i*ei.sz) fun j b o=>zem ei ps j b o v k
  match ps with
  | [p]=>match p.isRow with|true=>zem ei ps 0 0 [(i,ei.sz)] v k|false=>walk
  |_=>walk
def zd6 (ei:TyI):List SV→List (Nat×SV)→(List SV→Prop)→Prop
  |ps,[],k=>k ps
  |ps,(i,v) ::r,k=>zf2 ei ps i v fun ps'=>zd6 ei ps' r k
def zcx (Γ:Ctx) (fs:List (Nat×TypeId)):List SV→List (Nat×SV)→(List SV→Prop)→Prop
  |ps,[],k=>k ps
  |ps,(i,v) ::r,k=>zdi fs i fun ft=>yf Γ.ty ft.2 fun fi=>zfz ps 0 0 ft.1 fun j b o=>zem fi ps j b o v fun ps'=>zcx Γ fs ps' r k
def z2k (Γ:Ctx) (src dst:TypeId) (x:SV) (hp:List Blk) (K:SV→List Blk→Prop):Prop:=
  yf Γ.ty src fun si=>yf Γ.ty dst fun di=>match di.d with
    | .int d=>zfc d x fun v=>K v hp
    | .str=>match x with
      | .str l=>K (.str l) hp
      | .nilsl=>match si.d with
        | .sl e=>yf Γ.ty e fun ei=>match ei.d with
          | .int .u8=>K (.str []) hp
          |_=>False
        |_=>False
      | .sl .. =>match si.d with
        | .sl e=>yf Γ.ty e fun ei=>match ei.d with
          | .int .u8=>zg8 hp x fun l=>K (.str l) hp
          |_=>False
        |_=>False
      |_=>False
    | .sl e=>match x with
      | .str l=>yf Γ.ty e fun ei=>match ei.d with
        | .int .u8=>zag fun tail:List UInt8=>zlt hp (.mk e [.arr8 (l.length+tail.length) (l++tail)]) fun q hp'=>K (.sl q 0 0 [] l.length (l.length+tail.length)) hp'
        |_=>False
      |_=>False
    |_=>False
def zzx (Γ:Ctx) (t:TypeId) (dst src:SV) (hp:List Blk) (K:SV→List Blk→Prop):Prop:=
  yf Γ.ty t fun ti=>match ti.d with
    | .sl e=>yf Γ.ty e fun ei=>match Nat.beq ei.sz 1 with
      |true=>zg8 hp src fun s=>match dst with
       | .nilsl=>K (.int 0) hp
       | .sl k j b o n _=>zc0 hp k fun el ps=>zbh ps j b fun a r=>match r with
         | .arr8 w l ::r'=>Pre (off o+min s.length n≤l.length) (zc5 a (.arr8 w (zw l (off o) (s.take (min s.length n))) ::r') fun ps'=>zii hp k (.mk el ps') fun hp'=>K (.int (min s.length n:Nat)) hp')
         |_=>False
       |_=>False
      |false=>False
    |_=>False
def zh2 (Γ:Ctx) (e:TypeId) (s x:SV) (hp:List Blk) (K:SV→List Blk→Prop):Prop:=
  yf Γ.ty e fun ei=>match ei.zero with
    | .u8 _=>match Nat.beq ei.bytes 1 with
      |true=>zg8 hp x fun new=>match s with
       | .nilsl=>zv (decide (new.length=0)) (K .nilsl hp) (Pre (new.length≤140737488355328)
           (zag fun tail:List UInt8=>zlt hp (.mk e [.arr8 (new.length+tail.length) (new++tail)]) fun q hp2=>
             K (.sl q 0 0 [] new.length (new.length+tail.length)) hp2))
       | .sl k 0 0 [] n c=>zc0 hp k fun _ ps=>match ps with
         | [.arr8 _ l]=>Pre (n≤c∧c=l.length∧n+new.length≤140737488355328)
             (zag fun tail:List UInt8=>zii hp k .dead fun hp1=>ze0 hp1 (.mk e [.arr8 (n+new.length+tail.length) (l.take n++new++tail)]) fun hp2=>zi1 hp fun q=>
               K (.sl q 0 0 [] (n+new.length) (n+new.length+tail.length)) hp2)
         |_=>False
       |_=>False
      |false=>False
    |_=>False
def zkr (p:SV) (o:List (Nat×Nat)) (n es:Nat) (k:SV→Prop):Prop:=
  match p with
  | .arr8 _ l=>Pre (off o+n*es≤l.length) (k (.arr8 (n*es) ((l.drop (off o)).take (n*es))))
  | .arri _ l=>Pre (off o+n*es≤l.length) (k (.arri (n*es) ((l.drop (off o)).take (n*es))))
  | .arrs _ l=>Pre (off o+n*es≤l.length) (k (.arrs (n*es) ((l.drop (off o)).take (n*es))))
  | .tab m e f=>match Nat.beq e es with
    |true=>zj1 o es fun i c=>match c with
     |0=>Pre (i+n≤m) (k (.tab n es fun j=>f (i+j)))
     |_+1=>False
    |false=>False
  |_=>False
def z2c (p q:SV) (k:SV→Prop):Prop:=
  match p with
  | .arr8 a l=>match q with| .arr8 b m=>k (.arr8 (a+b) (l++m))|_=>False
  | .arri a l=>match q with| .arri b m=>k (.arri (a+b) (l++m))|_=>False
  | .arrs a l=>match q with| .arrs b m=>k (.arrs (a+b) (l++m))|_=>False
  | .tab a e f=>match q with
    | .tab b e' g=>match Nat.beq e e' with|true=>k (.tab (a+b) e fun i=>if i<a then f i else g (i-a))|false=>False
    |_=>False
  |_=>False
structure Tl (α:Type) (es:Nat) where
  t:Nat
  l:List α
  h:l.length=t*es
structure TlF (es:Nat) where
  t:Nat
  f:Nat→List At
  h: ∀i,i<t→(f i).length=es
def zn5 (z:SV) (p:SV) (es:Nat) (k:Nat→SV→Prop):Prop:=
  match p with
  | .arr8 .. =>match z with| .arr8 .. =>zag fun x:Tl UInt8 es=>k x.t (.arr8 (x.t*es) x.l)|_=>False
  | .arri .. =>match z with| .int _=>zag fun x:Tl Int es=>k x.t (.arri (x.t*es) x.l)|_=>False
  | .arrs .. =>match z with| .str _=>zag fun x:Tl (List UInt8) es=>k x.t (.arrs (x.t*es) x.l)|_=>False
  | .tab _ e _=>match Nat.beq e es with
    |true=>match z with| .agg zs=>zi8 zs fun _=>zag fun x:TlF es=>k x.t (.tab x.t es x.f)|_=>False
    |false=>False
  |_=>False
def zkt (e:TypeId) (ei:TyI) (s x:SV) (hp:List Blk) (K:SV→List Blk→Prop):Prop:=
  match x with
  | .sl kx jx bx ox nx _=>z1t hp kx jx bx fun px=>zkr px ox nx ei.sz fun new=>match s with
    | .nilsl=>Pre (1≤nx∧1≤ei.bytes∧nx*ei.bytes≤140737488355328) (zn5 ei.zero new ei.sz fun t tl=>z2c new tl fun r=>zlt hp (.mk e [r]) fun q hp2=>K (.sl q 0 0 [] nx (nx+t)) hp2)
    | .sl k 0 0 [] n c=>zc0 hp k fun _ ps=>match ps with
      | [p]=>Pre (n≤c∧p.size=c*ei.sz∧1≤ei.bytes∧(n+nx)*ei.bytes≤140737488355328) (zkr p [] n ei.sz fun old=>zn5 ei.zero p ei.sz fun t tl=>z2c old new fun r1=>z2c r1 tl fun r=>
          zii hp k .dead fun hp1=>ze0 hp1 (.mk e [r]) fun hp2=>zi1 hp fun q=>K (.sl q 0 0 [] (n+nx) (n+nx+t)) hp2)
      |_=>False
    |_=>False
  |_=>False
def zox (Γ:Ctx) (t u:TypeId) (s x:SV) (hp:List Blk) (K:SV→List Blk→Prop):Prop:=
  yf Γ.ty t fun ti=>yf Γ.ty u fun ui=>match ti.d with
    | .sl e=>match ui.d with
      | .str=>zh2 Γ e s x hp K
      | .sl _=>yf Γ.ty e fun ei=>match ei.zero with
        | .u8 _=>zh2 Γ e s x hp K
        |_=>zkt e ei s x hp K
      |_=>False
    |_=>False
def zlu (Γ:Ctx):List (Nat×TypeId)→Prop→Prop
  | [],K=>K
  |(_,t) ::fs,K=>yf Γ.ty t fun _=>zlu Γ fs K
def zq0 (Γ:Ctx) (t:TypeId) (given:List (Nat×SV)) (K:SV→Prop):Prop:=
  yf Γ.ty t fun ti=>match ti.zero.many with
    |true=>zbp ti.zero fun zs=>match ti.d with
     | .struct fs=>zlu Γ fs (zcx Γ fs zs given fun ps=>K (.agg ps))
     | .arr _ e=>yf Γ.ty e fun ei=>zd6 ei zs given fun ps=>zhw ps K
     |_=>False
    |false=>False
def zaz:List Nat→Nat→Bool
  | [],_=>false
  |x ::xs,n=>match Nat.beq x n with|true=>true|false=>zaz xs n
def zdb:List Nat→Nat→Nat
  | [],_=>0
  |x ::xs,n=>match Nat.beq x n with|true=>0|false=>zdb xs n+1
def fwd:List Nat→Nat→Nat→Nat
  | [],n,i=>n+i
  |x ::_,_,0=>x
  |_ ::xs,n,i+1=>fwd xs n i
def zeh:List Nat→Bool
  | []=>true
  |x ::xs=>match zaz xs x with|true=>false|false=>zeh xs
def zjt (hp:List Blk):Nat→List Nat→List Nat→(List Nat→Prop)→Prop
  |0,_,_,_=>False
  |_+1,[],seen,K=>K seen
  |f+1,k ::todo,seen,K=>match zaz seen k with
   |true=>zjt hp f todo seen K
   |false=>zdi hp k fun b=>match b with
    | .mk _ ps=>ze0 seen k fun seen'=>zc5 (ksL ps) todo fun todo'=>zjt hp f todo' seen' K
    | .dead=>ze0 seen k fun seen'=>zjt hp f todo seen' K
def zf1 (hp:List Blk) (g:Nat→Nat) (ι0:List Nat):List Nat→(List Blk→Prop)→Prop
  | [],K=>K []
  |i ::is,K=>zdi hp i fun b=>match b with
   | .mk el ps=>match zhe (zaz ι0) ps with
     |true=>zf1 hp g ι0 is fun l=>K (.mk el (zb2 g ps) ::l)
     |false=>False
   | .dead=>zf1 hp g ι0 is fun l=>K (.dead ::l)
def zog (g:Nat→Nat):List Nat→List Blk→List Blk→(List Blk→Prop)→Prop
  | [],new,hp,K=>newK new hp K
  |i ::is,b ::bs,hp,K=>zii hp i (b.ren g) fun hp'=>zog g is bs hp' K
  |_ ::_,[],_,_=>False
where newK:List Blk→List Blk→(List Blk→Prop)→Prop
  | [],hp,K=>K hp
  |b ::bs,hp,K=>ze0 hp (b.ren g) fun hp'=>newK bs hp' K
def z1z (S:Spec) (args:List SV) (hp:List Blk) (K:SV→List Blk→Prop):Prop:=
  match ksL args with
  | []=>S args [] fun r h'=>match h' with
    | []=>match ksL [r] with| []=>K r hp|_=>False
    |_=>zi1 hp fun n=>zog (fun i=>n+i) [] h' hp fun hp'=>K (r.ren fun i=>n+i) hp'
  |_=>zjt hp 200 (ksL args) [] fun ι=>match zeh ι with
   |true=>match zhe (zaz ι) args with
    |true=>zf1 hp (zdb ι) ι ι fun h=>S (zb2 (zdb ι) args) h fun r h'=>zi1 hp fun n=>zog (fwd ι n) ι h' hp fun hp'=>K (r.ren (fwd ι n)) hp'
    |false=>False
   |false=>False
def xh (Γ:Ctx) (op:Op) (tm:List (Nat×SV)) (put:SV→Prop):Prop:=
  match op with
  | .move x| .assign x=>evK tm x put
  | .pick c a b=>evK tm c fun cv=>evK tm a fun av=>evK tm b fun bv=>match cv with
    | .bool t=>zv t (put av) (put bv)
    |_=>False
  | .build t ps=>zhx tm ps.toList fun given=>zq0 Γ t given put
  | .nilCheck x=>evK tm x fun v=>match v with
    | .ptr .. =>put v
    | .xptr _=>put v
    | .func .. =>put v
    |_=>False
  | .binOp op t x y _=>evK tm x fun a=>evK tm y fun b=>zvs Γ op t a b put
  | .unOp op _ x=>evK tm x fun a=>unK op a put
  | .slice t x lo hi mx=>evK tm x fun v=>zgl tm lo fun lo=>zgl tm hi fun hi=>zgl tm mx fun mx=>zpy Γ t v lo hi mx put
  | .field s x f=>yf Γ.ty s fun si=>match si.d with
    | .struct fs=>zdi fs f fun ft=>yf Γ.ty ft.2 fun fi=>evK tm x fun v=>match v.many with|true=>zbp v fun ps=>zgb fi ps ft.1 put|false=>False
    |_=>False
  | .indexAddr t x i=>yf Γ.ty t fun ti=>evK tm x fun v=>evK tm i fun iv=>zsu iv fun ix=>match ti.d with
    | .arr n e=>yf Γ.ty e fun ei=>match v with
      | .ptr k j b oo=>Pre (ix<n) (put (.ptr k j b (yb oo ix ei.sz)))
      |_=>False
    | .sl e=>yf Γ.ty e fun ei=>match v with
      | .sl k j b oo n _=>Pre (ix<n) (put (.ptr k j b (yb oo ix ei.sz)))
      | .xsl a n _=>Pre (ix<n) (put (.xptr ((a.getD ⟨0,0,none⟩).add (ix*ei.sz))))
      |_=>False
    |_=>False
  | .index t x i=>yf Γ.ty t fun ti=>evK tm x fun v=>evK tm i fun iv=>zsu iv fun ix=>match v with
    | .str l=>match ti.d with
      | .str=>Pre (ix<l.length) (put (.u8 (l.getD ix 0)))
      |_=>False
    |v=>match ti.d with
     | .arr n e=>yf Γ.ty e fun ei=>match v.many with
       |true=>Pre (ix<n) (zk3 ei [v] 0 0 [(ix,ei.sz)] put)
       |false=>False
     |_=>False
  | .extract x i=>evK tm x fun v=>match v with
    | .tup vs=>zdi vs i put
    |_=>False
  | .convert s d x=>yf Γ.ty s fun _=>yf Γ.ty d fun di=>match di.d with
    | .int k=>evK tm x fun v=>zfc k v put
    |_=>False
  | .makeFunc fn first caps=>zxj tm caps.toList fun vs=>match fn with
    | .func f=>match first.toList with
      | []=>put (.func f vs)
      |_=>False
    |_=>False
  | .call c=>zxj tm c.args.toList fun args=>match c.callee with
    | .builtin .len=>match c.argTypes.toList with
      | [t]=>yf Γ.ty t fun ti=>match ti.d with
        | .str=>match args with
          | [.str l]=>put (.int l.length)
          |_=>False
        | .sl _=>match args with
          | [.sl _ _ _ _ n _]=>put (.int n)
          | [.nilsl]=>put (.int 0)
          | [.xsl _ n _]=>put (.int n)
          |_=>False
        | .arr n _=>match args with
          | [_]=>put (.int n)
          |_=>False
        |_=>False
      |_=>False
    | .builtin .min=>match args with
      | [.int a,.int b]=>put (.int (min a b))
      | [.int a,.int b,.int c]=>put (.int (min (min a b) c))
      |_=>False
    | .builtin .max=>match args with
      | [.int a,.int b]=>put (.int (max a b))
      | [.int a,.int b,.int c]=>put (.int (max (max a b) c))
      |_=>False
    |_=>False
  |_=>False
def zdr (Γ:Ctx) (op:Op) (tm:List (Nat×SV)) (hp:List Blk) (put:SV→Prop):Prop:=
  match op with
  | .load t x=>yf Γ.ty t fun ti=>evK tm x fun v=>match v with
    | .ptr k j b oo=>zc0 hp k fun _ ps=>zk3 ti ps j b oo put
    | .xptr a=>zl9 (Γ.ext a t) put
    |_=>False
  | .fieldAddr s x f=>yf Γ.ty s fun si=>match si.d with
    | .struct fs=>zdi fs f fun ft=>yf Γ.ty ft.2 fun fi=>match fi.sz with
      |0=>False
      |_+1=>evK tm x fun v=>match v with
       | .ptr k j b oo=>match ft.1 with
         |0=>put (.ptr k j b oo)
         |c+1=>match oo with
          | []=>zc0 hp k fun _ ps=>zbh ps j b fun _ r=>zfz r j b (c+1) fun j' b' o'=>put (.ptr k j' b' o')
          |_=>put (.ptr k j b (yb oo (c+1) 1))
       | .xptr a=>put (.xptr (a.add ft.1))
       |_=>False
    |_=>False
  | .convert s d x=>yf Γ.ty s fun si=>yf Γ.ty d fun di=>match di.d with
    | .str=>evK tm x fun v=>match v with
      | .str l=>put (.str l)
      | .nilsl=>match si.d with
        | .sl e=>yf Γ.ty e fun ei=>match ei.d with
          | .int .u8=>put (.str [])
          |_=>False
        |_=>False
      | .sl .. =>match si.d with
        | .sl e=>yf Γ.ty e fun ei=>match ei.d with
          | .int .u8=>zg8 hp v fun l=>put (.str l)
          |_=>False
        |_=>False
      |_=>False
    |_=>False
  |_=>False
def zbu (Γ:Ctx) (op:Op) (tm:List (Nat×SV)) (n:Nat) (put:SV→Blk→Prop):Prop:=
  match op with
  | .alloc t=>yf Γ.ty t fun ti=>zbp ti.zero fun ps=>put (.ptr n 0 0 []) (.mk t ps)
  | .box t x=>evK tm x fun v=>zbp v fun ps=>put (.ptr n 0 0 []) (.mk t ps)
  | .buildSlice t m ps=>zhx tm ps.toList fun given=>yf Γ.ty t fun ti=>match ti.d with
    | .sl e=>yf Γ.ty e fun ei=>Pre (m*ei.sz≤16777216) (zr9 ei.zero m fun zs=>zd6 ei zs given fun ps=>put (.sl n 0 0 [] m m) (.mk e ps))
    |_=>False
  | .makeSlice t l c=>evK tm l fun lv=>evK tm c fun cv=>zsu lv fun l=>zsu cv fun c=>yf Γ.ty t fun ti=>match ti.d with
    | .sl e=>yf Γ.ty e fun ei=>Pre (l≤c∧ei.bytes*c≤281474976710656∧c<9223372036854775808) (zr9 ei.zero c fun ps=>put (.sl n 0 0 [] l c) (.mk e ps))
    |_=>False
  |_=>False
def zbf (Γ:Ctx) (op:Op) (tm:List (Nat×SV)) (hp:List Blk) (put:SV→List Blk→Prop) (skip:List Blk→Prop):Prop:=
  match op with
  | .store t x y=>yf Γ.ty t fun ti=>evK tm x fun v=>evK tm y fun u=>match v with
    | .ptr k j b oo=>zc0 hp k fun el ps=>zem ti ps j b oo u fun ps'=>zii hp k (.mk el ps') skip
    |_=>False
  | .convert s d x=>evK tm x fun a=>z2k Γ s d a hp put
  | .call c=>zxj tm c.args.toList fun args=>match c.callee with
    | .value f=>evK tm f fun fv=>match fv with
      | .func fi caps=>yf Γ.fn fi fun S=>zc5 args caps fun all=>z1z S all hp put
      |_=>False
    | .builtin .copy=>match args with
      | [d,s]=>match c.argTypes.toList with
        |t ::_=>zzx Γ t d s hp put
        | []=>False
      |_=>False
    | .builtin .append=>match args with
      | [s,x]=>match c.argTypes.toList with
        | [t,u]=>zox Γ t u s x hp put
        |_=>False
      |_=>False
    |_=>False
  |_=>False
inductive Kind where
  |pure|read|maker|anchor
  deriving DecidableEq
def ybz:Option TyI→Bool
  |some ⟨.int _,_,_,_,_⟩=>true
  |_=>false
def z9r:Option TyI→Bool
  |some ⟨.str,_,_,_,_⟩=>true
  |_=>false
def z6o {α:Type}:List (Nat×α)→Nat→Option α
  | [],_=>none
  |(i,v) ::r,n=>match Nat.beq i n with|true=>some v|false=>z6o r n
def za1 (Γ:Ctx) (op:Op):Kind:=
  match op with
  | .load .. | .fieldAddr .. => .read
  | .alloc _| .box .. | .buildSlice .. | .makeSlice .. => .maker
  | .store .. => .anchor
  | .convert _ d _=>match ybz (z6o Γ.ty d) with
    |true=> .pure
    |false=>match z9r (z6o Γ.ty d) with|true=> .read|false=> .anchor
  | .call c=>match c.callee with
    | .builtin .len| .builtin .min| .builtin .max=> .pure
    |_=> .anchor
  |_=> .pure
def z3z (Γ:Ctx) (o:Oper) (tm:List (Nat×SV)) (hp:List Blk) (K:St→Prop):Prop:=
  match za1 Γ o.op with
  | .pure=>xh Γ o.op tm fun v=>zcw Γ.nt tm hp o.dst v K
  | .read=>zdr Γ o.op tm hp fun v=>zcw Γ.nt tm hp o.dst v K
  | .maker=>zi1 hp fun n=>zbu Γ o.op tm n fun v b=>ze0 hp b fun hp'=>zcw Γ.nt tm hp' o.dst v K
  | .anchor=>zbf Γ o.op tm hp (fun v hp'=>zcw Γ.nt tm hp' o.dst v K) fun hp'=>match o.dst with
    |none=>K ⟨tm,hp'⟩
    |some _=>False
end Go.Sym
