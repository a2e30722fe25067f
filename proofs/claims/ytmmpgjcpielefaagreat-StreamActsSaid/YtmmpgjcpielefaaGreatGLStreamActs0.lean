/-
  Contracts of functions of the program, each said of symbolic values, and plain laws; no condition beyond each statement's own.
-/
import GoSem.Dispatch
import GoSem.Core.Code
set_option linter.unusedSimpArgs false
set_option linter.unusedVariables false
namespace Go.Sym
inductive At where
  |bool (b:Bool)
  |int (n:Int)
  |u8 (x:UInt8)
  |u16 (x:UInt16)
  |u32 (x:UInt32)
  |u64 (x:UInt64)
  |str (l:List UInt8)
  deriving Inhabited
inductive SV where
  |bool (b:Bool)
  |int (n:Int)
  |u8 (x:UInt8)
  |u16 (x:UInt16)
  |u32 (x:UInt32)
  |u64 (x:UInt64)
  |str (l:List UInt8)
  |ptr (k j b:Nat) (o:List (Nat×Nat))
  |nilptr
  |sl (k j b:Nat) (o:List (Nat×Nat)) (n c:Nat)
  |nilsl
  |func (f:FuncId) (caps:List SV)
  |nilfn
  |nilif
  |iface (t:TypeId) (v:SV)
  |arr8 (n:Nat) (l:List UInt8)
  |arr32 (n:Nat) (l:List UInt32)
  |arr64 (n:Nat) (l:List UInt64)
  |arri (n:Nat) (l:List Int)
  |arrs (n:Nat) (l:List (List UInt8))
  |tab (n es:Nat) (f:Nat→List At)
  |agg (ps:List SV)
  |tup (vs:List SV)
  |xptr (a:Addr)
  |xsl (a:Option Addr) (n c:Nat)
  deriving Inhabited
inductive Blk where
  |mk (el:TypeId) (ps:List SV)
  |dead
  deriving Inhabited
structure St where
  tm:List (Nat×SV)
  hp:List Blk
def zib (x:Nat×Nat):Nat:=match x with|(i,1)=>i|(i,e)=>i*e
def off:List (Nat×Nat)→Nat
  | []=>0
  | [x]=>zib x
  |x ::y ::r=>zib x+off (y ::r)
theorem zc3 (x:Nat×Nat):zib x=x.1*x.2:=by
  obtain ⟨i,e⟩:=x
  unfold zib
  split
  ·rename_i h;cases h;simp
  ·rename_i h;cases h;rfl
theorem zu5 (x:Nat×Nat) (r:List (Nat×Nat)):off (x ::r)=x.1*x.2+off r:=by
  cases r with
  |nil=>simp [off,zc3]
  |cons y r=>simp [off,zc3]
def At.val:At→Value
  | .bool b=> .bool b
  | .int n=> .int .i64 n
  | .u8 x=> .int .u8 (x.toNat:Int)
  | .u16 x=> .int .u16 (x.toNat:Int)
  | .u32 x=> .int .u32 (x.toNat:Int)
  | .u64 x=> .int .u64 (x.toNat:Int)
  | .str l=> .string ⟨l.toArray⟩
def At.sv:At→SV
  | .bool b=> .bool b
  | .int n=> .int n
  | .u8 x=> .u8 x
  | .u16 x=> .u16 x
  | .u32 x=> .u32 x
  | .u64 x=> .u64 x
  | .str l=> .str l
def c8 (l:List UInt8):List Value:=l.map fun x=> .int .u8 (x.toNat:Int)
def c32 (l:List UInt32):List Value:=l.map fun x=> .int .u32 (x.toNat:Int)
def c64 (l:List UInt64):List Value:=l.map fun x=> .int .u64 (x.toNat:Int)
def ci (l:List Int):List Value:=l.map fun x=> .int .i64 x
def cs (l:List (List UInt8)):List Value:=l.map fun x=> .string ⟨x.toArray⟩
def zat (n:Nat) (f:Nat→List At):List Value:=(List.range n).flatMap fun i=>(f i).map At.val
mutual
def SV.cells (ρ:Nat→Nat):SV→List Value
  | .bool b=> [.bool b]
  | .int n=> [.int .i64 n]
  | .u8 x=> [.int .u8 (x.toNat:Int)]
  | .u16 x=> [.int .u16 (x.toNat:Int)]
  | .u32 x=> [.int .u32 (x.toNat:Int)]
  | .u64 x=> [.int .u64 (x.toNat:Int)]
  | .str l=> [.string ⟨l.toArray⟩]
  | .ptr k _ b o=> [.pointer (some ⟨ρ k,b+off o,none⟩)]
  | .nilptr=> [.pointer none]
  | .sl k _ b o n c=> [.slice (some ⟨ρ k,b+off o,none⟩) n c]
  | .nilsl=> [.slice none 0 0]
  | .func f caps=> [.func (.func f) #[] (xf ρ caps).toArray]
  | .nilfn=> [.nilFunc]
  | .nilif=> [.nilIface]
  | .iface t v=> [.iface t (v.den ρ)]
  | .arr8 _ l=>c8 l
  | .arr32 _ l=>c32 l
  | .arr64 _ l=>c64 l
  | .arri _ l=>ci l
  | .arrs _ l=>cs l
  | .tab n _ f=>zat n f
  | .agg ps=>zw ρ ps
  | .tup vs=> [.tuple (xf ρ vs).toArray]
  | .xptr a=> [.pointer (some a)]
  | .xsl a n c=> [.slice a n c]
def zw (ρ:Nat→Nat):List SV→List Value
  | []=> []
  |v ::vs=>v.cells ρ++zw ρ vs
def SV.den (ρ:Nat→Nat):SV→Value
  | .bool b=> .bool b
  | .int n=> .int .i64 n
  | .u8 x=> .int .u8 (x.toNat:Int)
  | .u16 x=> .int .u16 (x.toNat:Int)
  | .u32 x=> .int .u32 (x.toNat:Int)
  | .u64 x=> .int .u64 (x.toNat:Int)
  | .str l=> .string ⟨l.toArray⟩
  | .ptr k _ b o=> .pointer (some ⟨ρ k,b+off o,none⟩)
  | .nilptr=> .pointer none
  | .sl k _ b o n c=> .slice (some ⟨ρ k,b+off o,none⟩) n c
  | .nilsl=> .slice none 0 0
  | .func f caps=> .func (.func f) #[] (xf ρ caps).toArray
  | .nilfn=> .nilFunc
  | .nilif=> .nilIface
  | .iface t v=> .iface t (v.den ρ)
  | .arr8 _ l=> .agg (c8 l).toArray
  | .arr32 _ l=> .agg (c32 l).toArray
  | .arr64 _ l=> .agg (c64 l).toArray
  | .arri _ l=> .agg (ci l).toArray
  | .arrs _ l=> .agg (cs l).toArray
  | .tab n _ f=> .agg (zat n f).toArray
  | .agg ps=> .agg (zw ρ ps).toArray
  | .tup vs=> .tuple (xf ρ vs).toArray
  | .xptr a=> .pointer (some a)
  | .xsl a n c=> .slice a n c
def xf (ρ:Nat→Nat):List SV→List Value
  | []=> []
  |v ::vs=>v.den ρ ::xf ρ vs
end
mutual
def SV.size:SV→Nat
  | .arr8 n _=>n
  | .arr32 n _=>n
  | .arr64 n _=>n
  | .arri n _=>n
  | .arrs n _=>n
  | .tab n es _=>n*es
  | .agg ps=>yc ps
  |_=>1
def yc:List SV→Nat
  | []=>0
  |v ::vs=>v.size+yc vs
end
mutual
def SV.ok (p:Nat→Prop):SV→Prop
  | .ptr k _ _ _=>p k
  | .sl k _ _ _ _ _=>p k
  | .xsl a n _=>a.isSome=true∨n=0
  | .arr8 n l=>l.length=n
  | .arr32 n l=>l.length=n
  | .arr64 n l=>l.length=n
  | .arri n l=>l.length=n
  | .arrs n l=>l.length=n
  | .tab n es f=> ∀i,i<n→(f i).length=es
  | .agg ps=>okL p ps
  | .tup vs=>okL p vs
  | .func _ caps=>okL p caps
  | .iface _ v=>v.ok p
  |_=>True
def okL (p:Nat→Prop):List SV→Prop
  | []=>True
  |v ::vs=>v.ok p∧okL p vs
end
mutual
def SV.all (p:Nat→Bool):SV→Bool
  | .ptr k _ _ _=>p k
  | .sl k _ _ _ _ _=>p k
  | .agg ps=>ziv p ps
  | .tup vs=>ziv p vs
  | .func _ caps=>ziv p caps
  | .iface _ v=>v.all p
  |_=>true
def ziv (p:Nat→Bool):List SV→Bool
  | []=>true
  |v ::vs=>match v.all p with|true=>ziv p vs|false=>false
end
mutual
def SV.ks:SV→List Nat
  | .ptr k _ _ _=> [k]
  | .sl k _ _ _ _ _=> [k]
  | .agg ps=>ksL ps
  | .tup vs=>ksL vs
  | .func _ caps=>ksL caps
  | .iface _ v=>v.ks
  |_=> []
def ksL:List SV→List Nat
  | []=> []
  |v ::vs=>v.ks++ksL vs
end
mutual
def SV.ren (g:Nat→Nat):SV→SV
  | .ptr k j b o=> .ptr (g k) j b o
  | .sl k j b o n c=> .sl (g k) j b o n c
  | .func f caps=> .func f (zdj g caps)
  | .iface t v=> .iface t (v.ren g)
  | .agg ps=> .agg (zdj g ps)
  | .tup vs=> .tup (zdj g vs)
  | .bool b=> .bool b
  | .int n=> .int n
  | .u8 x=> .u8 x
  | .u16 x=> .u16 x
  | .u32 x=> .u32 x
  | .u64 x=> .u64 x
  | .str l=> .str l
  | .nilptr=> .nilptr
  | .nilsl=> .nilsl
  | .nilfn=> .nilfn
  | .nilif=> .nilif
  | .xptr a=> .xptr a
  | .xsl a n c=> .xsl a n c
  | .arr8 n l=> .arr8 n l
  | .arr32 n l=> .arr32 n l
  | .arr64 n l=> .arr64 n l
  | .arri n l=> .arri n l
  | .arrs n l=> .arrs n l
  | .tab n es f=> .tab n es f
def zdj (g:Nat→Nat):List SV→List SV
  | []=> []
  |v ::vs=>v.ren g ::zdj g vs
end
def Blk.ren (g:Nat→Nat):Blk→Blk
  | .mk el ps=> .mk el (zdj g ps)
  | .dead=> .dead
theorem zah (n es:Nat) (f:Nat→List At) (h: ∀i,i<n→(f i).length=es):(zat n f).length=n*es:=by
  unfold zat
  induction n with
  |zero=>simp
  |succ n ih=>
   rw [List.range_succ,List.flatMap_append,List.length_append,ih (fun i hi=>h i (by omega))]
   simp [h n (by omega),Nat.add_mul]
mutual
theorem SV.cells_length {p:Nat→Prop} (ρ:Nat→Nat): ∀v:SV,v.ok p→(v.cells ρ).length=v.size
  | .bool _,_=>rfl
  | .int _,_=>rfl
  | .u8 _,_=>rfl
  | .u16 _,_=>rfl
  | .u32 _,_=>rfl
  | .u64 _,_=>rfl
  | .str _,_=>rfl
  | .ptr ..,_=>rfl
  | .nilptr,_=>rfl
  | .sl ..,_=>rfl
  | .nilsl,_=>rfl
  | .func ..,_=>rfl
  | .nilfn,_=>rfl
  | .nilif,_=>rfl
  | .xptr _,_=>rfl
  | .xsl ..,_=>rfl
  | .iface ..,_=>rfl
  | .arr8 n l,h=>by simpa [SV.cells,SV.size,SV.ok,c8] using h
  | .arr32 n l,h=>by simpa [SV.cells,SV.size,SV.ok,c32] using h
  | .arr64 n l,h=>by simpa [SV.cells,SV.size,SV.ok,c64] using h
  | .arri n l,h=>by simpa [SV.cells,SV.size,SV.ok,ci] using h
  | .arrs n l,h=>by simpa [SV.cells,SV.size,SV.ok,cs] using h
  | .tab n es f,h=>by simpa [SV.cells,SV.size] using zah n es f (by simpa [SV.ok] using h)
  | .agg ps,h=>by simpa [SV.cells,SV.size] using xo ρ ps (by simpa [SV.ok] using h)
  | .tup _,_=>rfl
theorem xo {p:Nat→Prop} (ρ:Nat→Nat): ∀vs:List SV,okL p vs→(zw ρ vs).length=yc vs
  | [],_=>rfl
  |v ::vs,h=>by
   simp only [okL] at h
   simp [zw,yc,SV.cells_length ρ v h.1,xo ρ vs h.2]
end
mutual
theorem SV.cells_ren (ρ g:Nat→Nat): ∀v:SV,(v.ren g).cells ρ=v.cells (fun k=>ρ (g k))
  | .bool _=>rfl
  | .int _=>rfl
  | .u8 _=>rfl
  | .u16 _=>rfl
  | .u32 _=>rfl
  | .u64 _=>rfl
  | .str _=>rfl
  | .ptr .. =>rfl
  | .nilptr=>rfl
  | .sl .. =>rfl
  | .nilsl=>rfl
  | .func f caps=>by simp [SV.ren,SV.cells,zff ρ g caps]
  | .nilfn=>rfl
  | .nilif=>rfl
  | .xptr _=>rfl
  | .xsl .. =>rfl
  | .iface t v=>by simp [SV.ren,SV.cells,SV.den_ren ρ g v]
  | .arr8 .. =>rfl
  | .arr32 .. =>rfl
  | .arr64 .. =>rfl
  | .arri .. =>rfl
  | .arrs .. =>rfl
  | .tab .. =>rfl
  | .agg ps=>by simp [SV.ren,SV.cells,zb9 ρ g ps]
  | .tup vs=>by simp [SV.ren,SV.cells,zff ρ g vs]
theorem zb9 (ρ g:Nat→Nat): ∀vs:List SV,zw ρ (zdj g vs)=zw (fun k=>ρ (g k)) vs
  | []=>rfl
  |v ::vs=>by simp [zdj,zw,SV.cells_ren ρ g v,zb9 ρ g vs]
theorem SV.den_ren (ρ g:Nat→Nat): ∀v:SV,(v.ren g).den ρ=v.den (fun k=>ρ (g k))
  | .bool _=>rfl
  | .int _=>rfl
  | .u8 _=>rfl
  | .u16 _=>rfl
  | .u32 _=>rfl
  | .u64 _=>rfl
  | .str _=>rfl
  | .ptr .. =>rfl
  | .nilptr=>rfl
  | .sl .. =>rfl
  | .nilsl=>rfl
  | .func f caps=>by simp [SV.ren,SV.den,zff ρ g caps]
  | .nilfn=>rfl
  | .nilif=>rfl
  | .xptr _=>rfl
  | .xsl .. =>rfl
  | .iface t v=>by simp [SV.ren,SV.den,SV.den_ren ρ g v]
  | .arr8 .. =>rfl
  | .arr32 .. =>rfl
  | .arr64 .. =>rfl
  | .arri .. =>rfl
  | .arrs .. =>rfl
  | .tab .. =>rfl
  | .agg ps=>by simp [SV.ren,SV.den,zb9 ρ g ps]
  | .tup vs=>by simp [SV.ren,SV.den,zff ρ g vs]
theorem zff (ρ g:Nat→Nat): ∀vs:List SV,xf ρ (zdj g vs)=xf (fun k=>ρ (g k)) vs
  | []=>rfl
  |v ::vs=>by simp [zdj,xf,SV.den_ren ρ g v,zff ρ g vs]
end
mutual
theorem SV.ok_ren {p q:Nat→Prop} (g:Nat→Nat) (hg: ∀k,p k→q (g k)): ∀v:SV,v.ok p→(v.ren g).ok q
  | .bool _,_=>trivial
  | .int _,_=>trivial
  | .u8 _,_=>trivial
  | .u16 _,_=>trivial
  | .u32 _,_=>trivial
  | .u64 _,_=>trivial
  | .str _,_=>trivial
  | .nilptr,_=>trivial
  | .nilsl,_=>trivial
  | .nilfn,_=>trivial
  | .nilif,_=>trivial
  | .xptr _,_=>trivial
  | .xsl ..,h=>h
  | .ptr k _ _ _,h=>hg k h
  | .sl k _ _ _ _ _,h=>hg k h
  | .func _ caps,h=>by simp only [SV.ren,SV.ok] at h ⊢;exact zeo g hg caps h
  | .iface _ v,h=>by simp only [SV.ren,SV.ok] at h ⊢;exact SV.ok_ren g hg v h
  | .arr8 _ _,h=>h
  | .arr32 _ _,h=>h
  | .arr64 _ _,h=>h
  | .arri _ _,h=>h
  | .arrs _ _,h=>h
  | .tab _ _ _,h=>h
  | .agg ps,h=>by simp only [SV.ren,SV.ok] at h ⊢;exact zeo g hg ps h
  | .tup vs,h=>by simp only [SV.ren,SV.ok] at h ⊢;exact zeo g hg vs h
theorem zeo {p q:Nat→Prop} (g:Nat→Nat) (hg: ∀k,p k→q (g k)): ∀vs:List SV,okL p vs→okL q (zdj g vs)
  | [],_=>trivial
  |v ::vs,h=>⟨SV.ok_ren g hg v h.1,zeo g hg vs h.2⟩
end
mutual
theorem SV.ok_mono {p q:Nat→Prop} (hg: ∀k,p k→q k): ∀v:SV,v.ok p→v.ok q
  | .bool _,_=>trivial
  | .int _,_=>trivial
  | .u8 _,_=>trivial
  | .u16 _,_=>trivial
  | .u32 _,_=>trivial
  | .u64 _,_=>trivial
  | .str _,_=>trivial
  | .nilptr,_=>trivial
  | .nilsl,_=>trivial
  | .nilfn,_=>trivial
  | .nilif,_=>trivial
  | .xptr _,_=>trivial
  | .xsl ..,h=>h
  | .ptr k _ _ _,h=>hg k h
  | .sl k _ _ _ _ _,h=>hg k h
  | .func _ caps,h=>by simp only [SV.ok] at h ⊢;exact yz hg caps h
  | .iface _ v,h=>by simp only [SV.ok] at h ⊢;exact SV.ok_mono hg v h
  | .arr8 _ _,h=>h
  | .arr32 _ _,h=>h
  | .arr64 _ _,h=>h
  | .arri _ _,h=>h
  | .arrs _ _,h=>h
  | .tab _ _ _,h=>h
  | .agg ps,h=>by simp only [SV.ok] at h ⊢;exact yz hg ps h
  | .tup vs,h=>by simp only [SV.ok] at h ⊢;exact yz hg vs h
theorem yz {p q:Nat→Prop} (hg: ∀k,p k→q k): ∀vs:List SV,okL p vs→okL q vs
  | [],_=>trivial
  |v ::vs,h=>⟨SV.ok_mono hg v h.1,yz hg vs h.2⟩
end
mutual
theorem SV.ok_all {p:Nat→Prop} {b:Nat→Bool}: ∀v:SV,v.ok p→v.all b=true→v.ok (fun k=>b k=true)
  | .bool _,_,_=>trivial
  | .int _,_,_=>trivial
  | .u8 _,_,_=>trivial
  | .u16 _,_,_=>trivial
  | .u32 _,_,_=>trivial
  | .u64 _,_,_=>trivial
  | .str _,_,_=>trivial
  | .nilptr,_,_=>trivial
  | .nilsl,_,_=>trivial
  | .nilfn,_,_=>trivial
  | .nilif,_,_=>trivial
  | .xptr _,_,_=>trivial
  | .xsl ..,h,_=>h
  | .ptr k _ _ _,_,h=>h
  | .sl k _ _ _ _ _,_,h=>h
  | .func _ caps,h,h'=>by simp only [SV.ok,SV.all] at h h' ⊢;exact zep caps h h'
  | .iface _ v,h,h'=>by simp only [SV.ok,SV.all] at h h' ⊢;exact SV.ok_all v h h'
  | .arr8 _ _,h,_=>h
  | .arr32 _ _,h,_=>h
  | .arr64 _ _,h,_=>h
  | .arri _ _,h,_=>h
  | .arrs _ _,h,_=>h
  | .tab _ _ _,h,_=>h
  | .agg ps,h,h'=>by simp only [SV.ok,SV.all] at h h' ⊢;exact zep ps h h'
  | .tup vs,h,h'=>by simp only [SV.ok,SV.all] at h h' ⊢;exact zep vs h h'
theorem zep {p:Nat→Prop} {b:Nat→Bool}: ∀vs:List SV,okL p vs→ziv b vs=true→okL (fun k=>b k=true) vs
  | [],_,_=>trivial
  |v ::vs,h,h'=>by
   have hv:v.all b=true∧ziv b vs=true:=by
     cases hb:v.all b<;>simp [ziv,hb] at h' ⊢
     exact h'
   exact ⟨SV.ok_all v h.1 hv.1,zep vs h.2 hv.2⟩
end
mutual
theorem SV.cells_congr {p:Nat→Prop} {ρ ρ':Nat→Nat} (hp: ∀k,p k→ρ k=ρ' k): ∀v:SV,v.ok p→v.cells ρ=v.cells ρ'
  | .bool _,_=>rfl
  | .int _,_=>rfl
  | .u8 _,_=>rfl
  | .u16 _,_=>rfl
  | .u32 _,_=>rfl
  | .u64 _,_=>rfl
  | .str _,_=>rfl
  | .nilptr,_=>rfl
  | .nilsl,_=>rfl
  | .nilfn,_=>rfl
  | .nilif,_=>rfl
  | .xptr _,_=>rfl
  | .xsl ..,_=>rfl
  | .ptr k _ _ _,h=>by simp only [SV.cells,hp k h]
  | .sl k _ _ _ _ _,h=>by simp only [SV.cells,hp k h]
  | .func _ caps,h=>by simp only [SV.ok] at h;simp only [SV.cells,zcw hp caps h]
  | .iface _ v,h=>by simp only [SV.ok] at h;simp only [SV.cells,SV.den_congr hp v h]
  | .arr8 _ _,_=>rfl
  | .arr32 _ _,_=>rfl
  | .arr64 _ _,_=>rfl
  | .arri _ _,_=>rfl
  | .arrs _ _,_=>rfl
  | .tab _ _ _,_=>rfl
  | .agg ps,h=>by simp only [SV.ok] at h;simp only [SV.cells,xy hp ps h]
  | .tup vs,h=>by simp only [SV.ok] at h;simp only [SV.cells,zcw hp vs h]
theorem xy {p:Nat→Prop} {ρ ρ':Nat→Nat} (hp: ∀k,p k→ρ k=ρ' k): ∀vs:List SV,okL p vs→zw ρ vs=zw ρ' vs
  | [],_=>rfl
  |v ::vs,h=>by simp only [zw,SV.cells_congr hp v h.1,xy hp vs h.2]
theorem SV.den_congr {p:Nat→Prop} {ρ ρ':Nat→Nat} (hp: ∀k,p k→ρ k=ρ' k): ∀v:SV,v.ok p→v.den ρ=v.den ρ'
  | .bool _,_=>rfl
  | .int _,_=>rfl
  | .u8 _,_=>rfl
  | .u16 _,_=>rfl
  | .u32 _,_=>rfl
  | .u64 _,_=>rfl
  | .str _,_=>rfl
  | .nilptr,_=>rfl
  | .nilsl,_=>rfl
  | .nilfn,_=>rfl
  | .nilif,_=>rfl
  | .xptr _,_=>rfl
  | .xsl ..,_=>rfl
  | .ptr k _ _ _,h=>by simp only [SV.den,hp k h]
  | .sl k _ _ _ _ _,h=>by simp only [SV.den,hp k h]
  | .func _ caps,h=>by simp only [SV.ok] at h;simp only [SV.den,zcw hp caps h]
  | .iface _ v,h=>by simp only [SV.ok] at h;simp only [SV.den,SV.den_congr hp v h]
  | .arr8 _ _,_=>rfl
  | .arr32 _ _,_=>rfl
  | .arr64 _ _,_=>rfl
  | .arri _ _,_=>rfl
  | .arrs _ _,_=>rfl
  | .tab _ _ _,_=>rfl
  | .agg ps,h=>by simp only [SV.ok] at h;simp only [SV.den,xy hp ps h]
  | .tup vs,h=>by simp only [SV.ok] at h;simp only [SV.den,zcw hp vs h]
theorem zcw {p:Nat→Prop} {ρ ρ':Nat→Nat} (hp: ∀k,p k→ρ k=ρ' k): ∀vs:List SV,okL p vs→xf ρ vs=xf ρ' vs
  | [],_=>rfl
  |v ::vs,h=>by simp only [xf,SV.den_congr hp v h.1,zcw hp vs h.2]
end
theorem xi {p:Nat→Prop} {a b:List SV}:okL p (a++b)↔okL p a∧okL p b:=by
  induction a with
  |nil=>simp [okL]
  |cons x r ih=>simp [okL,ih,and_assoc]
theorem ym (ρ:Nat→Nat) (a b:List SV):zw ρ (a++b)=zw ρ a++zw ρ b:=by
  induction a with
  |nil=>simp [zw]
  |cons x r ih=>simp [zw,ih]
theorem zme (ρ:Nat→Nat) (vs:List SV):(xf ρ vs).length=vs.length:=by
  induction vs with
  |nil=>rfl
  |cons v vs ih=>simp [xf,ih]
def SV.scalar:SV→Bool
  | .arr8 .. | .arr32 .. | .arr64 .. | .arri .. | .arrs .. | .tab .. | .agg _| .tup _=>false
  |_=>true
def SV.many:SV→Bool
  | .arr8 .. | .arr32 .. | .arr64 .. | .arri .. | .arrs .. | .tab .. | .agg _=>true
  |_=>false
theorem zbi {ρ:Nat→Nat} {v:SV} (h:v.scalar=true):v.cells ρ= [v.den ρ]:=by
  cases v<;>first|rfl|(simp [SV.scalar] at h)
theorem zdi {ρ:Nat→Nat} {v:SV} (h:v.many=true):v.den ρ= .agg (v.cells ρ).toArray:=by
  cases v<;>first|rfl|(simp [SV.many] at h)|simp [SV.den,SV.cells]
theorem zdy (ρ:Nat→Nat) (v:SV):(v.den ρ).cells=(v.cells ρ).toArray:=by
  cases v<;>simp [SV.den,SV.cells,Value.cells]
theorem At.val_eq (ρ:Nat→Nat) (a:At):a.val=a.sv.den ρ:=by cases a<;>rfl
theorem At.sv_ok {p:Nat→Prop} (a:At):a.sv.ok p:=by cases a<;>simp [At.sv,SV.ok]
theorem At.sv_scalar (a:At):a.sv.scalar=true:=by cases a<;>rfl
end Go.Sym

namespace Go.Sym
inductive Ty where
  |int (k:IntKind)|bool|str|ptr|sl (e:TypeId)|arr (n:Nat) (e:TypeId)|struct (fs:List (Nat×TypeId))|func|iface|other
  deriving Inhabited
structure TyI where
  d:Ty
  sz:Nat
  bytes:Nat
  zero:SV
  eqOk:Bool:=false
abbrev Spec:=List SV→List Blk→(SV→List Blk→Prop)→Prop
structure Ctx where
  nt:Nat
  ty:List (Nat×TyI)
  fn:List (Nat×Spec)
  E:World→Prop:=fun _=>True
  ext:Addr→TypeId→SV→Prop:=fun _ _ _=>False
def Pre (p q:Prop):Prop:=p∧q
def ye (t:Bool) (a b:Prop):Prop:=(t=true→a)∧(t=false→b)
def zaz {α:Type} (f:α→Prop):Prop:= ∀x,f x
def zn9 (R k:SV→Prop):Prop:= ∃v,R v∧k v
attribute [irreducible] Pre ye zaz zn9
theorem zmh {R k:SV→Prop} (v:SV) (h:R v) (h':k v):zn9 R k:=by unfold zn9;exact ⟨v,h,h'⟩
theorem ydf {R k:SV→Prop} (h:zn9 R k): ∃v,R v∧k v:=by unfold zn9 at h;exact h
theorem zr {p q:Prop} (h:p) (h':q):Pre p q:=by unfold Pre;exact ⟨h,h'⟩
theorem zq {p q:Prop} (h:Pre p q):p∧q:=by unfold Pre at h;exact h
theorem zbw {t:Bool} {a b:Prop} (h:t=true→a) (h':t=false→b):ye t a b:=by unfold ye;exact ⟨h,h'⟩
theorem z8 {t:Bool} {a b:Prop} (h:ye t a b):(t=true→a)∧(t=false→b):=by unfold ye at h;exact h
theorem zj {t:Bool} {a b:Prop} (e:t=true) (h:a):ye t a b:=zbw (fun _=>h) (fun h=>by rw [e] at h;cases h)
theorem zk {t:Bool} {a b:Prop} (e:t=false) (h:b):ye t a b:=zbw (fun h=>by rw [e] at h;cases h) (fun _=>h)
theorem yi {α:Type} {f:α→Prop} (h: ∀x,f x):zaz f:=by unfold zaz;exact h
theorem x0 {α:Type} {f:α→Prop} (h:zaz f): ∀x,f x:=by unfold zaz at h;exact h
def zgk {α:Type}:List α→α→(List α→Prop)→Prop
  | [],x,k=>k [x]
  |y ::ys,x,k=>zgk ys x fun l=>k (y ::l)
def zei {α:Type}:List α→List α→(List α→Prop)→Prop
  | [],b,k=>k b
  |y ::ys,b,k=>zei ys b fun l=>k (y ::l)
def zjm {α:Type}:List α→Nat→α→(List α→Prop)→Prop
  | [],_,_,_=>False
  |_ ::xs,0,y,k=>k (y ::xs)
  |x ::xs,n+1,y,k=>zjm xs n y fun l=>k (x ::l)
def zfe {α:Type}:List α→Nat→(α→Prop)→Prop
  | [],_,_=>False
  |x ::_,0,k=>k x
  |_ ::xs,n+1,k=>zfe xs n k
def yn {α:Type}:List (Nat×α)→Nat→(α→Prop)→Prop
  | [],_,_=>False
  |(i,v) ::r,n,k=>match Nat.beq i n with|true=>k v|false=>yn r n k
def zkf {α:Type} (l:List α) (k:Nat→Prop):Prop:=
  match l with
  | []=>k 0
  | [_]=>k 1
  | [_,_]=>k 2
  | [_,_,_]=>k 3
  | [_,_,_,_]=>k 4
  | [_,_,_,_,_]=>k 5
  | [_,_,_,_,_,_]=>k 6
  | [_,_,_,_,_,_,_]=>k 7
  | [_,_,_,_,_,_,_,_]=>k 8
  | [_,_,_,_,_,_,_,_,_]=>k 9
  | [_,_,_,_,_,_,_,_,_,_]=>k 10
  | [_,_,_,_,_,_,_,_,_,_,_]=>k 11
  | [_,_,_,_,_,_,_,_,_,_,_,_]=>k 12
  | [_,_,_,_,_,_,_,_,_,_,_,_,_]=>k 13
  | [_,_,_,_,_,_,_,_,_,_,_,_,_,_]=>k 14
  | [_,_,_,_,_,_,_,_,_,_,_,_,_,_,_]=>k 15
  | [_,_,_,_,_,_,_,_,_,_,_,_,_,_,_,_]=>k 16
  | [_,_,_,_,_,_,_,_,_,_,_,_,_,_,_,_,_]=>k 17
  | [_,_,_,_,_,_,_,_,_,_,_,_,_,_,_,_,_,_]=>k 18
  | [_,_,_,_,_,_,_,_,_,_,_,_,_,_,_,_,_,_,_]=>k 19
  | [_,_,_,_,_,_,_,_,_,_,_,_,_,_,_,_,_,_,_,_]=>k 20
  | [_,_,_,_,_,_,_,_,_,_,_,_,_,_,_,_,_,_,_,_,_]=>k 21
  | [_,_,_,_,_,_,_,_,_,_,_,_,_,_,_,_,_,_,_,_,_,_]=>k 22
  | [_,_,_,_,_,_,_,_,_,_,_,_,_,_,_,_,_,_,_,_,_,_,_]=>k 23
  | [_,_,_,_,_,_,_,_,_,_,_,_,_,_,_,_,_,_,_,_,_,_,_,_]=>k 24
  | [_,_,_,_,_,_,_,_,_,_,_,_,_,_,_,_,_,_,_,_,_,_,_,_,_]=>k 25
  | [_,_,_,_,_,_,_,_,_,_,_,_,_,_,_,_,_,_,_,_,_,_,_,_,_,_]=>k 26
  | [_,_,_,_,_,_,_,_,_,_,_,_,_,_,_,_,_,_,_,_,_,_,_,_,_,_,_]=>k 27
  | [_,_,_,_,_,_,_,_,_,_,_,_,_,_,_,_,_,_,_,_,_,_,_,_,_,_,_,_]=>k 28
  | [_,_,_,_,_,_,_,_,_,_,_,_,_,_,_,_,_,_,_,_,_,_,_,_,_,_,_,_,_]=>k 29
  | [_,_,_,_,_,_,_,_,_,_,_,_,_,_,_,_,_,_,_,_,_,_,_,_,_,_,_,_,_,_]=>k 30
  | [_,_,_,_,_,_,_,_,_,_,_,_,_,_,_,_,_,_,_,_,_,_,_,_,_,_,_,_,_,_,_]=>k 31
  | [_,_,_,_,_,_,_,_,_,_,_,_,_,_,_,_,_,_,_,_,_,_,_,_,_,_,_,_,_,_,_,_]=>k 32
  |l=>k l.length
def znx (v:Value) (k:SV→Prop):Prop:=
  match v with
  | .bool b=>k (.bool b)
  | .int .i64 n=>k (.int n)
  | .int .u8 (.ofNat n)=>match Nat.blt n 256 with|true=>k (.u8 (UInt8.ofNat n))|false=>False
  | .int .u16 (.ofNat n)=>match Nat.blt n 65536 with|true=>k (.u16 (UInt16.ofNat n))|false=>False
  | .int .u32 (.ofNat n)=>match Nat.blt n 4294967296 with|true=>k (.u32 (UInt32.ofNat n))|false=>False
  | .int .u64 (.ofNat n)=>match Nat.blt n 18446744073709551616 with|true=>k (.u64 (UInt64.ofNat n))|false=>False
  | .string ⟨⟨l⟩⟩=>k (.str l)
  | .pointer none=>k .nilptr
  | .slice none 0 0=>k .nilsl
  | .nilFunc=>k .nilfn
  | .nilIface=>k .nilif
  |_=>False
def evK (tm:List (Nat×SV)) (x:Operand) (k:SV→Prop):Prop:=
  match x with
  | .tmp t=>yn tm t k
  | .const v=>znx v k
  | .func f=>k (.func f [])
  | .global _=>False
def z34 (tm:List (Nat×SV)):List Operand→(List SV→Prop)→Prop
  | [],k=>k []
  |x ::xs,k=>evK tm x fun v=>z34 tm xs fun vs=>k (v ::vs)
def zd0 (nt:Nat) (tm:List (Nat×SV)) (hp:List Blk) (d:Option Nat) (v:SV) (K:St→Prop):Prop:=
  match d with
  |some d=>match Nat.blt d nt with|true=>K ⟨(d,v) ::tm,hp⟩|false=>False
  |none=>K ⟨tm,hp⟩
def SV.isRow:SV→Bool
  | .arr8 .. | .arr32 .. | .arr64 .. | .arri .. | .arrs .. | .tab .. =>true
  |_=>false
mutual
def zcr:SV→(List SV→Prop)→Prop
  | .agg ps,k=>zfw ps k
  |v,k=>k [v]
def zfw:List SV→(List SV→Prop)→Prop
  | [],k=>k []
  |v ::vs,k=>zcr v fun a=>zfw vs fun b=>zei a b k
end
def zce:List SV→Nat→Nat→(List SV→List SV→Prop)→Prop
  |ps,0,b,k=>match Nat.beq b 0 with|true=>k [] ps|false=>False
  | [],_+1,_,_=>False
  |p ::ps,j+1,b,k=>match Nat.ble p.size b with|true=>zce ps j (b-p.size) fun a r=>k (p ::a) r|false=>False
def zg5:List SV→Nat→(List SV→List SV→Prop)→Prop
  |ps,0,k=>k [] ps
  | [],_+1,_=>False
  |p ::ps,n+1,k=>match Nat.ble p.size (n+1) with|true=>zg5 ps (n+1-p.size) fun a r=>k (p ::a) r|false=>False
def zjq (ps:List SV) (k:SV→Prop):Prop:=
  match ps with
  | [p]=>match p.isRow with|true=>k p|false=>k (.agg [p])
  |ps=>k (.agg ps)
def zg8:List SV→(j b c:Nat)→(Nat→Nat→List (Nat×Nat)→Prop)→Prop
  |_,j,b,0,k=>k j b []
  | [],_,_,_+1,_=>False
  |p ::ps,j,b,c+1,k=>match Nat.ble p.size (c+1) with
   |true=>zg8 ps (j+1) (b+p.size) (c+1-p.size) k
   |false=>match p.isRow with|true=>k j b [(c+1,1)]|false=>False
def yb:List (Nat×Nat)→Nat→Nat→List (Nat×Nat)
  | [],i,e=> [(i,e)]
  |(i',e') :: [],i,e=>match Nat.beq e' e with|true=> [(i'+i,e)]|false=> [(i',e'),(i,e)]
  |x ::y ::r,i,e=>x ::yb (y ::r) i e
def zlp (o:List (Nat×Nat)) (es:Nat) (k:Nat→Nat→Prop):Prop:=
  match o with
  | []=>k 0 0
  | [(i,e)]=>match Nat.beq e es with|true=>k i 0|false=>False
  | [(i,e),(c,1)]=>match Nat.beq e es with|true=>k i c|false=>False
  |_=>False
def atK (a:At) (k:SV→Prop):Prop:=
  match a with
  | .bool b=>k (.bool b)| .int n=>k (.int n)| .u8 x=>k (.u8 x)| .u16 x=>k (.u16 x)| .u32 x=>k (.u32 x)| .u64 x=>k (.u64 x)| .str l=>k (.str l)
def yal:List At→(List SV→Prop)→Prop
  | [],k=>k []
  |a ::as,k=>atK a fun v=>yal as fun vs=>k (v ::vs)
def z0n {α:Type}:List α→Nat→(List α→Prop)→Prop
  |l,0,k=>k l
  | [],_+1,_=>False
  |_ ::xs,n+1,k=>z0n xs n k
def zur {α:Type}:List α→Nat→(List α→Prop)→Prop
  |_,0,k=>k []
  | [],_+1,_=>False
  |x ::xs,n+1,k=>zur xs n fun l=>k (x ::l)
def zpt (p:SV) (o:List (Nat×Nat)) (k:SV→Prop):Prop:=
  match p with
  | .arr8 _ l=>Pre (off o<l.length) (k (.u8 (l.getD (off o) 0)))
  | .arr32 _ l=>Pre (off o<l.length) (k (.u32 (l.getD (off o) 0)))
  | .arr64 _ l=>Pre (off o<l.length) (k (.u64 (l.getD (off o) 0)))
  | .arri _ l=>Pre (off o<l.length) (k (.int (l.getD (off o) 0)))
  | .arrs _ l=>Pre (off o<l.length) (k (.str (l.getD (off o) [])))
  | .tab n es f=>zlp o es fun i c=>Pre (i<n) (zfe (f i) c fun a=>atK a k)
  | .agg _=>False
  | .tup _=>False
  |v=>match o with| []=>k v|_=>False
def zwk (p:SV) (o:List (Nat×Nat)) (m:Nat) (k:SV→Prop):Prop:=
  match p with
  | .arr8 _ l=>Pre (off o+m≤l.length) (k (.arr8 m ((l.drop (off o)).take m)))
  | .arr32 _ l=>Pre (off o+m≤l.length) (k (.arr32 m ((l.drop (off o)).take m)))
  | .arr64 _ l=>Pre (off o+m≤l.length) (k (.arr64 m ((l.drop (off o)).take m)))
  | .arri _ l=>Pre (off o+m≤l.length) (k (.arri m ((l.drop (off o)).take m)))
  | .arrs _ l=>Pre (off o+m≤l.length) (k (.arrs m ((l.drop (off o)).take m)))
  | .tab n es f=>zlp o es fun i c=>Pre (i<n) (z0n (f i) c fun r=>zur r m fun as=>yal as fun vs=>k (.agg vs))
  |_=>False
def zn1 (ti:TyI) (ps:List SV) (j b:Nat) (o:List (Nat×Nat)) (k:SV→Prop):Prop:=
  zce ps j b fun _ r=>match ti.d with
    | .arr .. | .struct .. =>match o with
      | []=>zg5 r ti.sz fun a _=>zjq a k
      |_=>match r with|p ::_=>zwk p o ti.sz k| []=>False
    |_=>match r with|p ::_=>zpt p o k| []=>False
def zvi:List SV→(List UInt64→Prop)→Prop
  | [],k=>k []
  | .u64 x ::r,k=>zvi r fun l=>k (x ::l)
  |_,_=>False
def zq4 (v:SV) (k:At→Prop):Prop:=
  match v with
  | .bool b=>k (.bool b)| .int n=>k (.int n)| .u8 x=>k (.u8 x)| .u16 x=>k (.u16 x)| .u32 x=>k (.u32 x)| .u64 x=>k (.u64 x)| .str l=>k (.str l)
  |_=>False
def zls:List SV→(List At→Prop)→Prop
  | [],k=>k []
  |v ::vs,k=>zq4 v fun a=>zls vs fun as=>k (a ::as)
def zx {α:Type} (l:List α) (i:Nat) (m:List α):List α:=l.take i++m++l.drop (i+m.length)
def zhc (f:Nat→List At) (i:Nat) (r:List At):Nat→List At:=fun x=>if x=i then r else f x
def zfo (p:SV) (o:List (Nat×Nat)) (v:SV) (k:SV→Prop):Prop:=
  match p with
  | .arr8 n l=>match v with
    | .u8 x=>Pre (off o<l.length) (k (.arr8 n (l.set (off o) x)))
    | .arr8 m x=>Pre (off o+m≤l.length) (k (.arr8 n (zx l (off o) x)))
    |_=>False
  | .arr32 n l=>match v with
    | .u32 x=>Pre (off o<l.length) (k (.arr32 n (l.set (off o) x)))
    | .arr32 m x=>Pre (off o+m≤l.length) (k (.arr32 n (zx l (off o) x)))
    |_=>False
  | .arr64 n l=>match v with
    | .u64 x=>Pre (off o<l.length) (k (.arr64 n (l.set (off o) x)))
    | .arr64 m x=>Pre (off o+m≤l.length) (k (.arr64 n (zx l (off o) x)))
    | .agg vs=>zvi vs fun x=>Pre (off o+x.length≤l.length) (k (.arr64 n (zx l (off o) x)))
    |_=>False
  | .arri n l=>match v with
    | .int x=>Pre (off o<l.length) (k (.arri n (l.set (off o) x)))
    | .arri m x=>Pre (off o+m≤l.length) (k (.arri n (zx l (off o) x)))
    |_=>False
  | .arrs n l=>match v with
    | .str x=>Pre (off o<l.length) (k (.arrs n (l.set (off o) x)))
    |_=>False
  | .tab n es f=>match v with
    | .agg vs=>zls vs fun as=>zlp o es fun i c=>match c with
      |0=>Pre (i<n∧as.length=es) (k (.tab n es (zhc f i as)))
      |_=>False
    |v=>zq4 v fun a=>zlp o es fun i c=>Pre (i<n) (zjm (f i) c a fun r=>k (.tab n es (zhc f i r)))
  | .agg _=>False
  | .tup _=>False
  |_=>match o with
   | []=>match v.scalar with|true=>k v|false=>False
   |_=>False
def SV.plain (v:SV):Bool:=match v with| .agg _=>false| .tup _=>false|_=>true
def zin:List SV→Bool
  | []=>true
  |v ::vs=>match v.plain with|true=>zin vs|false=>false
def zfv (ti:TyI) (ps:List SV) (j b:Nat) (o:List (Nat×Nat)) (v:SV) (k:List SV→Prop):Prop:=
  zce ps j b fun a r=>
    match o with
    | []=>match v.many with
      |true=>zg5 r ti.sz fun _ r'=>zcr v fun fs=>match Nat.beq (yc fs) ti.sz with|true=>(match zin fs with|true=>zei fs r' fun q=>zei a q k|false=>False)|false=>False
      |false=>match Nat.beq ti.sz 1 with
       |true=>match r with|p ::r'=>zfo p [] v fun p'=>zei a (p' ::r') k| []=>False
       |false=>False
    |_=>match Nat.beq v.size ti.sz with
     |true=>match r with|p ::r'=>zfo p o v fun p'=>zei a (p' ::r') k| []=>False
     |false=>False
def ya (n:Int):Prop:= -9223372036854775808≤n∧n<9223372036854775808
def zae (op:BinOp) (a b:Int):Int:=
  IntKind.i64.wrap (match op with
    | .and=>((BitVec.ofInt 64 a&&&BitVec.ofInt 64 b).toNat:Int)
    | .or=>((BitVec.ofInt 64 a|||BitVec.ofInt 64 b).toNat:Int)
    | .xor=>((BitVec.ofInt 64 a^^^BitVec.ofInt 64 b).toNat:Int)
    |_=>((BitVec.ofInt 64 a&&& ~~~(BitVec.ofInt 64 b)).toNat:Int))
def yai (op:BinOp) (a b:Int) (k:SV→Prop):Prop:=
  match op with
  | .add=>Pre (ya (a+b)) (k (.int (a+b)))
  | .sub=>Pre (ya (a-b)) (k (.int (a-b)))
  | .mul=>Pre (ya (a*b)) (k (.int (a*b)))
  | .quo=>Pre (b≠0∧ya (a.tdiv b)) (k (.int (a.tdiv b)))
  | .rem=>Pre (b≠0) (k (.int (a.tmod b)))
  | .and=>k (.int (zae .and a b))
  | .or=>k (.int (zae .or a b))
  | .xor=>k (.int (zae .xor a b))
  | .andNot=>k (.int (zae .andNot a b))
  | .eql=>k (.bool (decide (a=b)))
  | .neq=>k (.bool (!decide (a=b)))
  | .lss=>k (.bool (decide (a<b)))
  | .leq=>k (.bool (decide (a≤b)))
  | .gtr=>k (.bool (decide (a>b)))
  | .geq=>k (.bool (decide (a≥b)))
  |_=>False
def z8w (y:SV) (k:Nat→Prop):Prop:=
  match y with
  | .int n=>Pre (0≤n) (k n.toNat)
  | .u8 x=>k x.toNat
  | .u16 x=>k x.toNat
  | .u32 x=>k x.toNat
  | .u64 x=>k x.toNat
  |_=>False
def u8K (op:BinOp) (a b:UInt8) (k:SV→Prop):Prop:=
  match op with
  | .add=>k (.u8 (a+b))
  | .sub=>k (.u8 (a-b))
  | .mul=>k (.u8 (a*b))
  | .quo=>Pre (b.toNat≠0) (k (.u8 (a/ b)))
  | .rem=>Pre (b.toNat≠0) (k (.u8 (a%b)))
  | .and=>k (.u8 (a&&&b))
  | .or=>k (.u8 (a|||b))
  | .xor=>k (.u8 (a^^^b))
  | .andNot=>k (.u8 (a&&& ~~~b))
  | .eql=>k (.bool (decide (a=b)))
  | .neq=>k (.bool (!decide (a=b)))
  | .lss=>k (.bool (decide (a<b)))
  | .leq=>k (.bool (decide (a≤b)))
  | .gtr=>k (.bool (decide (b<a)))
  | .geq=>k (.bool (decide (b≤a)))
  |_=>False
def ybp (op:BinOp) (a b:UInt16) (k:SV→Prop):Prop:=
  match op with
  | .add=>k (.u16 (a+b))
  | .sub=>k (.u16 (a-b))
  | .mul=>k (.u16 (a*b))
  | .quo=>Pre (b.toNat≠0) (k (.u16 (a/ b)))
  | .rem=>Pre (b.toNat≠0) (k (.u16 (a%b)))
  | .and=>k (.u16 (a&&&b))
  | .or=>k (.u16 (a|||b))
  | .xor=>k (.u16 (a^^^b))
  | .andNot=>k (.u16 (a&&& ~~~b))
  | .eql=>k (.bool (decide (a=b)))
  | .neq=>k (.bool (!decide (a=b)))
  | .lss=>k (.bool (decide (a<b)))
  | .leq=>k (.bool (decide (a≤b)))
  | .gtr=>k (.bool (decide (b<a)))
  | .geq=>k (.bool (decide (b≤a)))
  |_=>False
def ydb (op:BinOp) (a b:UInt32) (k:SV→Prop):Prop:=
  match op with
  | .add=>k (.u32 (a+b))
  | .sub=>k (.u32 (a-b))
  | .mul=>k (.u32 (a*b))
  | .quo=>Pre (b.toNat≠0) (k (.u32 (a/ b)))
  | .rem=>Pre (b.toNat≠0) (k (.u32 (a%b)))
  | .and=>k (.u32 (a&&&b))
  | .or=>k (.u32 (a|||b))
  | .xor=>k (.u32 (a^^^b))
  | .andNot=>k (.u32 (a&&& ~~~b))
  | .eql=>k (.bool (decide (a=b)))
  | .neq=>k (.bool (!decide (a=b)))
  | .lss=>k (.bool (decide (a<b)))
  | .leq=>k (.bool (decide (a≤b)))
  | .gtr=>k (.bool (decide (b<a)))
  | .geq=>k (.bool (decide (b≤a)))
  |_=>False
def ya0 (op:BinOp) (a b:UInt64) (k:SV→Prop):Prop:=
  match op with
  | .add=>k (.u64 (a+b))
  | .sub=>k (.u64 (a-b))
  | .mul=>k (.u64 (a*b))
  | .quo=>Pre (b.toNat≠0) (k (.u64 (a/ b)))
  | .rem=>Pre (b.toNat≠0) (k (.u64 (a%b)))
  | .and=>k (.u64 (a&&&b))
  | .or=>k (.u64 (a|||b))
  | .xor=>k (.u64 (a^^^b))
  | .andNot=>k (.u64 (a&&& ~~~b))
  | .eql=>k (.bool (decide (a=b)))
  | .neq=>k (.bool (!decide (a=b)))
  | .lss=>k (.bool (decide (a<b)))
  | .leq=>k (.bool (decide (a≤b)))
  | .gtr=>k (.bool (decide (b<a)))
  | .geq=>k (.bool (decide (b≤a)))
  |_=>False
def yb6 (x y:SV) (k:SV→Prop):Prop:=
  z8w y fun n=>match x with
    | .int a=>Pre (n<64∧ya (a*2^n)) (k (.int (a*2^n)))
    | .u8 a=>Pre (n<8) (k (.u8 (a<<<UInt8.ofNat n)))
    | .u16 a=>Pre (n<16) (k (.u16 (a<<<UInt16.ofNat n)))
    | .u32 a=>Pre (n<32) (k (.u32 (a<<<UInt32.ofNat n)))
    | .u64 a=>Pre (n<64) (k (.u64 (a<<<UInt64.ofNat n)))
    |_=>False
def yck (x y:SV) (k:SV→Prop):Prop:=
  z8w y fun n=>match x with
    | .int a=>Pre (n<64) (k (.int (a/ 2^n)))
    | .u8 a=>Pre (n<8) (k (.u8 (a>>>UInt8.ofNat n)))
    | .u16 a=>Pre (n<16) (k (.u16 (a>>>UInt16.ofNat n)))
    | .u32 a=>Pre (n<32) (k (.u32 (a>>>UInt32.ofNat n)))
    | .u64 a=>Pre (n<64) (k (.u64 (a>>>UInt64.ofNat n)))
    |_=>False
def yaa (op:BinOp) (a b:List UInt8) (k:SV→Prop):Prop:=
  match op with
  | .add=>Pre (a.length+b.length<9223372036854775808) (k (.str (a++b)))
  | .eql=>k (.bool (decide (a=b)))
  | .neq=>k (.bool (!decide (a=b)))
  |_=>False
def z20 (op:BinOp) (x y:SV) (k:SV→Prop):Prop:=
  match op with
  | .shl=>yb6 x y k
  | .shr=>yck x y k
  |op=>match x,y with
   | .int a,.int b=>yai op a b k
   | .u8 a,.u8 b=>u8K op a b k
   | .u16 a,.u16 b=>ybp op a b k
   | .u32 a,.u32 b=>ydb op a b k
   | .u64 a,.u64 b=>ya0 op a b k
   | .str a,.str b=>yaa op a b k
   |_,_=>False
def unK (op:UnOp) (x:SV) (k:SV→Prop):Prop:=
  match op,x with
  | .not,.bool b=>k (.bool (!b))
  | .neg,.int a=>Pre (ya (0-a)) (k (.int (0-a)))
  | .neg,.u8 a=>k (.u8 (0-a))
  | .neg,.u16 a=>k (.u16 (0-a))
  | .neg,.u32 a=>k (.u32 (0-a))
  | .neg,.u64 a=>k (.u64 (0-a))
  | .xor,.u8 a=>k (.u8 (~~~a))
  | .xor,.u16 a=>k (.u16 (~~~a))
  | .xor,.u32 a=>k (.u32 (~~~a))
  | .xor,.u64 a=>k (.u64 (~~~a))
  |_,_=>False
def zhi (d:IntKind) (x:SV) (k:SV→Prop):Prop:=
  match d,x with
  | .i64,.int n=>Pre (ya n) (k (.int n))
  | .i64,.u8 a=>k (.int a.toNat)
  | .i64,.u16 a=>k (.int a.toNat)
  | .i64,.u32 a=>k (.int a.toNat)
  | .i64,.u64 a=>Pre (a.toNat<9223372036854775808) (k (.int a.toNat))
  | .u8,.int n=>k (.u8 (UInt8.ofInt n))
  | .u8,.u8 a=>k (.u8 a)
  | .u8,.u16 a=>k (.u8 a.toUInt8)
  | .u8,.u32 a=>k (.u8 a.toUInt8)
  | .u8,.u64 a=>k (.u8 a.toUInt8)
  | .u16,.int n=>k (.u16 (UInt16.ofInt n))
  | .u16,.u8 a=>k (.u16 a.toUInt16)
  | .u16,.u16 a=>k (.u16 a)
  | .u16,.u32 a=>k (.u16 a.toUInt16)
  | .u16,.u64 a=>k (.u16 a.toUInt16)
  | .u32,.int n=>k (.u32 (UInt32.ofInt n))
  | .u32,.u8 a=>k (.u32 a.toUInt32)
  | .u32,.u16 a=>k (.u32 a.toUInt32)
  | .u32,.u32 a=>k (.u32 a)
  | .u32,.u64 a=>k (.u32 a.toUInt32)
  | .u64,.int n=>k (.u64 (UInt64.ofInt n))
  | .u64,.u8 a=>k (.u64 a.toUInt64)
  | .u64,.u16 a=>k (.u64 a.toUInt64)
  | .u64,.u32 a=>k (.u64 a.toUInt64)
  | .u64,.u64 a=>k (.u64 a)
  |_,_=>False
end Go.Sym

namespace Go.Sym
def zvl (v:SV) (k:Nat→Prop):Prop:=
  match v with
  | .int n=>Pre (0≤n) (k n.toNat)
  | .u8 x=>k x.toNat
  | .u16 x=>k x.toNat
  | .u32 x=>k x.toNat
  | .u64 x=>k x.toNat
  |_=>False
def zhk (tm:List (Nat×SV)) (x:Option Operand) (k:Option Nat→Prop):Prop:=
  match x with
  |none=>k none
  |some x=>evK tm x fun v=>zvl v fun n=>k (some n)
def zkt (tm:List (Nat×SV)):List (Nat×Operand)→(List (Nat×SV)→Prop)→Prop
  | [],k=>k []
  |(i,x) ::r,k=>evK tm x fun v=>zkt tm r fun l=>k ((i,v) ::l)
def zee (hp:List Blk) (k:Nat) (K:TypeId→List SV→Prop):Prop:=
  zfe hp k fun b=>match b with| .mk el ps=>K el ps| .dead=>False
def zn6 (hp:List Blk) (b:Blk) (K:Nat→List Blk→Prop):Prop:=
  zkf hp fun n=>zgk hp b fun hp'=>K n hp'
def z6g (hp:List Blk) (k j b:Nat) (K:SV→Prop):Prop:=
  zee hp k fun _ ps=>zce ps j b fun _ r=>match r with|p ::_=>K p| []=>False
def zi7 (hp:List Blk) (v:SV) (K:List UInt8→Prop):Prop:=
  match v with
  | .str l=>K l
  | .nilsl=>K []
  | .sl k j b o n _=>z6g hp k j b fun p=>match p with
    | .arr8 _ l=>Pre (off o+n≤l.length) (K ((l.drop (off o)).take n))
    |_=>False
  |_=>False
def zg3 (fi:TyI) (ps:List SV) (c:Nat) (k:SV→Prop):Prop:=
  match c with
  |0=>zn1 fi ps 0 0 [] k
  |c+1=>zg8 ps 0 0 (c+1) fun j b o=>zn1 fi ps j b o k
mutual
def eqK (Γ:Ctx):Nat→TypeId→SV→SV→(Bool→Prop)→Prop
  |0,_,_,_,_=>False
  |f+1,t,x,y,k=>yn Γ.ty t fun ti=>match ti.d with
   | .int .i64=>match x,y with| .int a,.int b=>k (decide (a=b))|_,_=>False
   | .int .u8=>match x,y with| .u8 a,.u8 b=>k (decide (a=b))|_,_=>False
   | .int .u16=>match x,y with| .u16 a,.u16 b=>k (decide (a=b))|_,_=>False
   | .int .u32=>match x,y with| .u32 a,.u32 b=>k (decide (a=b))|_,_=>False
   | .int .u64=>match x,y with| .u64 a,.u64 b=>k (decide (a=b))|_,_=>False
   | .bool=>match x,y with| .bool a,.bool b=>k (a==b)|_,_=>False
   | .str=>match x,y with| .str a,.str b=>k (decide (a=b))|_,_=>False
   | .ptr=>match x,y with| .nilptr,.nilptr=>k true| .nilptr,.ptr .. =>k false| .ptr ..,.nilptr=>k false|_,_=>False
   | .sl _=>match x,y with| .nilsl,.nilsl=>k true| .nilsl,.sl .. =>k false| .sl ..,.nilsl=>k false|_,_=>False
   | .func=>match x,y with| .nilfn,.nilfn=>k true| .nilfn,.func .. =>k false| .func ..,.nilfn=>k false|_,_=>False
   | .arr n e=>yn Γ.ty e fun ei=>match ei.d with
     | .int .u64=>match x,y with| .arr64 m a,.arr64 m' b=>(match Nat.beq m n with|true=>(match Nat.beq m' n with|true=>k (decide (a=b))|false=>False)|false=>False)|_,_=>False
     | .int .u32=>match x,y with| .arr32 m a,.arr32 m' b=>(match Nat.beq m n with|true=>(match Nat.beq m' n with|true=>k (decide (a=b))|false=>False)|false=>False)|_,_=>False
     | .int .u8=>match x,y with| .arr8 m a,.arr8 m' b=>(match Nat.beq m n with|true=>(match Nat.beq m' n with|true=>k (decide (a=b))|false=>False)|false=>False)|_,_=>False
     | .int .i64=>match x,y with| .arri m a,.arri m' b=>(match Nat.beq m n with|true=>(match Nat.beq m' n with|true=>k (decide (a=b))|false=>False)|false=>False)|_,_=>False
     |_=>False
   | .struct fs=>match ti.eqOk with
     |true=>match x.many with
      |true=>match y.many with
       |true=>zcr x fun xs=>zcr y fun ys=>zng Γ f fs xs ys k
       |false=>False
      |false=>False
     |false=>False
   |_=>False
def zng (Γ:Ctx):Nat→List (Nat×TypeId)→List SV→List SV→(Bool→Prop)→Prop
  |0,_,_,_,_=>False
  |_+1,[],_,_,k=>k true
  |f+1,(c,t) ::fs,xs,ys,k=>yn Γ.ty t fun ti=>zg3 ti xs c fun a=>zg3 ti ys c fun b=>
    eqK Γ f t a b fun r=>zng Γ f fs xs ys fun r'=>k (r&&r')
end
def z0b (Γ:Ctx) (op:BinOp) (t:TypeId) (x y:SV) (k:SV→Prop):Prop:=
  match x with
  | .int _| .u8 _| .u16 _| .u32 _| .u64 _| .str _=>z20 op x y k
  |_=>
   let go (k:Bool→Prop):Prop:=match x.many with
     |true=>yn Γ.ty t fun ti=>match ti.eqOk with|true=>eqK Γ 60 t x y k|false=>False
     |false=>eqK Γ 60 t x y k
   match op with
   | .eql=>go fun r=>k (.bool r)
   | .neq=>go fun r=>k (.bool (!r))
   |_=>False
def zyv (l:List UInt8) (lo hi:Option Nat) (K:SV→Prop):Prop:=
  match lo,hi with
  |none,none=>K (.str l)
  |none,some h=>Pre (h≤l.length) (K (.str (l.take h)))
  |some a,none=>Pre (a≤l.length) (K (.str (l.drop a)))
  |some a,some h=>Pre (a≤h∧h≤l.length) (K (.str ((l.drop a).take (h-a))))
def slO (m a:Nat):Nat:=if m=a then 0 else a
attribute [irreducible] slO
def zos (k j b:Nat) (o:List (Nat×Nat)) (n c es:Nat) (lo hi mx:Option Nat) (K:SV→Prop):Prop:=
  let go (m h:Nat):Prop:=match lo with
    |none=>K (.sl k j b o h m)
    |some a=>Pre (a≤h) (K (.sl k j b (yb o (slO m a) es) (h-a) (m-a)))
  match hi,mx with
  |none,none=>go c n
  |some h,none=>Pre (h≤c) (go c h)
  |some h,some m=>Pre (h≤m∧m≤c) (go m h)
  |none,some _=>False
def zn4 (x:Option Nat):Prop:=match x with|none=>True|some n=>n=0
def ztn (Γ:Ctx) (t:TypeId) (x:SV) (lo hi mx:Option Nat) (K:SV→Prop):Prop:=
  match x with
  | .str l=>yn Γ.ty t fun ti=>match ti.d with
    | .str=>match mx with|none=>zyv l lo hi K|some _=>False
    |_=>False
  | .nilsl=>yn Γ.ty t fun ti=>match ti.d with
    | .sl e=>yn Γ.ty e fun _=>match hi,mx with|none,some _=>False|_,_=>Pre (zn4 lo∧zn4 hi∧zn4 mx) (K .nilsl)
    |_=>False
  | .sl k j b o n c=>yn Γ.ty t fun ti=>match ti.d with
    | .sl e=>yn Γ.ty e fun ei=>zos k j b o n c ei.sz lo hi mx K
    |_=>False
  | .ptr k j b o=>yn Γ.ty t fun ti=>match ti.d with
    | .arr n e=>yn Γ.ty e fun ei=>zos k j b o n n ei.sz lo hi mx K
    |_=>False
  |_=>False
def zzp (z:SV):Nat→(List SV→Prop)→Prop
  |0,k=>k []
  |n+1,k=>zzp z n fun l=>k (z ::l)
def zw2 (z:SV) (c:Nat) (K:List SV→Prop):Prop:=
  match z with
  | .u8 x=>K [.arr8 c (List.replicate c x)]
  | .u32 x=>K [.arr32 c (List.replicate c x)]
  | .u64 x=>K [.arr64 c (List.replicate c x)]
  | .int x=>K [.arri c (List.replicate c x)]
  | .str x=>K [.arrs c (List.replicate c x)]
  | .bool x=>K [.tab c 1 fun _=> [.bool x]]
  | .arr8 m (x ::l)=>Pre (x ::l=List.replicate m x) (K [.arr8 (c*m) (List.replicate (c*m) x)])
  | .agg ps=>zls ps fun as=>match as with| []=>False|a ::r=>K [.tab c (r.length+1) fun _=>a ::r]
  | .nilsl=>zzp .nilsl c K
  | .nilptr=>zzp .nilptr c K
  | .nilif=>zzp .nilif c K
  | .nilfn=>zzp .nilfn c K
  |_=>False
def zhd (ei:TyI) (ps:List SV) (i:Nat) (v:SV) (k:List SV→Prop):Prop:=
  let walk:Prop:=zg8 ps 0 0 (i*ei.sz) fun j b o=>zfv ei ps j b o v k
  match ps with
  | [p]=>match p.isRow with|true=>zfv ei ps 0 0 [(i,ei.sz)] v k|false=>walk
  |_=>walk
def zez (ei:TyI):List SV→List (Nat×SV)→(List SV→Prop)→Prop
  |ps,[],k=>k ps
  |ps,(i,v) ::r,k=>zhd ei ps i v fun ps'=>zez ei ps' r k
def zed (Γ:Ctx) (fs:List (Nat×TypeId)):List SV→List (Nat×SV)→(List SV→Prop)→Prop
  |ps,[],k=>k ps
  |ps,(i,v) ::r,k=>zfe fs i fun ft=>yn Γ.ty ft.2 fun fi=>zg8 ps 0 0 ft.1 fun j b o=>zfv fi ps j b o v fun ps'=>zed Γ fs ps' r k
def z9a (Γ:Ctx) (src dst:TypeId) (x:SV) (hp:List Blk) (K:SV→List Blk→Prop):Prop:=
  yn Γ.ty src fun si=>yn Γ.ty dst fun di=>match di.d with
    | .int d=>zhi d x fun v=>K v hp
    | .str=>match x with
      | .str l=>K (.str l) hp
      | .nilsl=>match si.d with
        | .sl e=>yn Γ.ty e fun ei=>match ei.d with
          | .int .u8=>K (.str []) hp
          |_=>False
        |_=>False
      | .sl .. =>match si.d with
        | .sl e=>yn Γ.ty e fun ei=>match ei.d with
          | .int .u8=>zi7 hp x fun l=>K (.str l) hp
          |_=>False
        |_=>False
      |_=>False
    | .sl e=>match x with
      | .str l=>yn Γ.ty e fun ei=>match ei.d with
        | .int .u8=>zaz fun tail:List UInt8=>zn6 hp (.mk e [.arr8 (l.length+tail.length) (l++tail)]) fun q hp'=>K (.sl q 0 0 [] l.length (l.length+tail.length)) hp'
        |_=>False
      |_=>False
    |_=>False
def z7o (Γ:Ctx) (t:TypeId) (dst src:SV) (hp:List Blk) (K:SV→List Blk→Prop):Prop:=
  yn Γ.ty t fun ti=>match ti.d with
    | .sl e=>yn Γ.ty e fun ei=>match Nat.beq ei.sz 1 with
      |true=>zi7 hp src fun s=>match dst with
       | .nilsl=>K (.int 0) hp
       | .sl k j b o n _=>zee hp k fun el ps=>zce ps j b fun a r=>match r with
         | .arr8 w l ::r'=>Pre (off o+min s.length n≤l.length) (zei a (.arr8 w (zx l (off o) (s.take (min s.length n))) ::r') fun ps'=>zjm hp k (.mk el ps') fun hp'=>K (.int (min s.length n:Nat)) hp')
         |_=>False
       |_=>False
      |false=>False
    |_=>False
def zjd (Γ:Ctx) (e:TypeId) (s x:SV) (hp:List Blk) (K:SV→List Blk→Prop):Prop:=
  yn Γ.ty e fun ei=>match ei.zero with
    | .u8 _=>match Nat.beq ei.bytes 1 with
      |true=>zi7 hp x fun new=>match s with
       | .nilsl=>ye (decide (new.length=0)) (K .nilsl hp) (Pre (new.length≤140737488355328)
           (zaz fun tail:List UInt8=>zn6 hp (.mk e [.arr8 (new.length+tail.length) (new++tail)]) fun q hp2=>
             K (.sl q 0 0 [] new.length (new.length+tail.length)) hp2))
       | .sl k 0 0 [] n c=>zee hp k fun _ ps=>match ps with
         | [.arr8 _ l]=>Pre (n≤c∧c=l.length∧n+new.length≤140737488355328)
             (zaz fun tail:List UInt8=>zjm hp k .dead fun hp1=>zgk hp1 (.mk e [.arr8 (n+new.length+tail.length) (l.take n++new++tail)]) fun hp2=>zkf hp fun q=>
               K (.sl q 0 0 [] (n+new.length) (n+new.length+tail.length)) hp2)
         |_=>False
       |_=>False
      |false=>False
    |_=>False
def zm4 (p:SV) (o:List (Nat×Nat)) (n es:Nat) (k:SV→Prop):Prop:=
  match p with
  | .arr8 _ l=>Pre (off o+n*es≤l.length) (k (.arr8 (n*es) ((l.drop (off o)).take (n*es))))
  | .arri _ l=>Pre (off o+n*es≤l.length) (k (.arri (n*es) ((l.drop (off o)).take (n*es))))
  | .arrs _ l=>Pre (off o+n*es≤l.length) (k (.arrs (n*es) ((l.drop (off o)).take (n*es))))
  | .tab m e f=>match Nat.beq e es with
    |true=>zlp o es fun i c=>match c with
     |0=>Pre (i+n≤m) (k (.tab n es fun j=>f (i+j)))
     |_+1=>False
    |false=>False
  |_=>False
def z50 (p q:SV) (k:SV→Prop):Prop:=
  match p with
  | .arr8 a l=>match q with| .arr8 b m=>k (.arr8 (a+b) (l++m))|_=>False
  | .arri a l=>match q with| .arri b m=>k (.arri (a+b) (l++m))|_=>False
  | .arrs a l=>match q with| .arrs b m=>k (.arrs (a+b) (l++m))|_=>False
  | .tab a e f=>match q with
    | .tab b e' g=>match Nat.beq e e' with|true=>k (.tab (a+b) e fun i=>if i<a then f i else g (i-a))|false=>False
    |_=>False
  |_=>False
structure Tl (α:Type) (es:Nat) where
  t:Nat
  l:List α
  h:l.length=t*es
structure TlF (es:Nat) where
  t:Nat
  f:Nat→List At
  h: ∀i,i<t→(f i).length=es
def zr4 (z:SV) (p:SV) (es:Nat) (k:Nat→SV→Prop):Prop:=
  match p with
  | .arr8 .. =>match z with| .arr8 .. =>zaz fun x:Tl UInt8 es=>k x.t (.arr8 (x.t*es) x.l)|_=>False
  | .arri .. =>match z with| .int _=>zaz fun x:Tl Int es=>k x.t (.arri (x.t*es) x.l)|_=>False
  | .arrs .. =>match z with| .str _=>zaz fun x:Tl (List UInt8) es=>k x.t (.arrs (x.t*es) x.l)|_=>False
  | .tab _ e _=>match Nat.beq e es with
    |true=>match z with| .agg zs=>zls zs fun _=>zaz fun x:TlF es=>k x.t (.tab x.t es x.f)|_=>False
    |false=>False
  |_=>False
def zmy (e:TypeId) (ei:TyI) (s x:SV) (hp:List Blk) (K:SV→List Blk→Prop):Prop:=
  match x with
  | .sl kx jx bx ox nx _=>z6g hp kx jx bx fun px=>zm4 px ox nx ei.sz fun new=>match s with
    | .nilsl=>Pre (1≤nx∧1≤ei.bytes∧nx*ei.bytes≤140737488355328) (zr4 ei.zero new ei.sz fun t tl=>z50 new tl fun r=>zn6 hp (.mk e [r]) fun q hp2=>K (.sl q 0 0 [] nx (nx+t)) hp2)
    | .sl k 0 0 [] n c=>zee hp k fun _ ps=>match ps with
      | [p]=>Pre (n≤c∧p.size=c*ei.sz∧1≤ei.bytes∧(n+nx)*ei.bytes≤140737488355328) (zm4 p [] n ei.sz fun old=>zr4 ei.zero p ei.sz fun t tl=>z50 old new fun r1=>z50 r1 tl fun r=>
          zjm hp k .dead fun hp1=>zgk hp1 (.mk e [r]) fun hp2=>zkf hp fun q=>K (.sl q 0 0 [] (n+nx) (n+nx+t)) hp2)
      |_=>False
    |_=>False
  |_=>False
def zsl (Γ:Ctx) (t u:TypeId) (s x:SV) (hp:List Blk) (K:SV→List Blk→Prop):Prop:=
  yn Γ.ty t fun ti=>yn Γ.ty u fun ui=>match ti.d with
    | .sl e=>match ui.d with
      | .str=>zjd Γ e s x hp K
      | .sl _=>yn Γ.ty e fun ei=>match ei.zero with
        | .u8 _=>zjd Γ e s x hp K
        |_=>zmy e ei s x hp K
      |_=>False
    |_=>False
def znu (Γ:Ctx):List (Nat×TypeId)→Prop→Prop
  | [],K=>K
  |(_,t) ::fs,K=>yn Γ.ty t fun _=>znu Γ fs K
def zts (Γ:Ctx) (t:TypeId) (given:List (Nat×SV)) (K:SV→Prop):Prop:=
  yn Γ.ty t fun ti=>match ti.zero.many with
    |true=>zcr ti.zero fun zs=>match ti.d with
     | .struct fs=>znu Γ fs (zed Γ fs zs given fun ps=>K (.agg ps))
     | .arr _ e=>yn Γ.ty e fun ei=>zez ei zs given fun ps=>zjq ps K
     |_=>False
    |false=>False
def zbv:List Nat→Nat→Bool
  | [],_=>false
  |x ::xs,n=>match Nat.beq x n with|true=>true|false=>zbv xs n
def zen:List Nat→Nat→Nat
  | [],_=>0
  |x ::xs,n=>match Nat.beq x n with|true=>0|false=>zen xs n+1
def fwd:List Nat→Nat→Nat→Nat
  | [],n,i=>n+i
  |x ::_,_,0=>x
  |_ ::xs,n,i+1=>fwd xs n i
def zf3:List Nat→Bool
  | []=>true
  |x ::xs=>match zbv xs x with|true=>false|false=>zf3 xs
def zlk (hp:List Blk):Nat→List Nat→List Nat→(List Nat→Prop)→Prop
  |0,_,_,_=>False
  |_+1,[],seen,K=>K seen
  |f+1,k ::todo,seen,K=>match zbv seen k with
   |true=>zlk hp f todo seen K
   |false=>zfe hp k fun b=>match b with
    | .mk _ ps=>zgk seen k fun seen'=>zei (ksL ps) todo fun todo'=>zlk hp f todo' seen' K
    | .dead=>zgk seen k fun seen'=>zlk hp f todo seen' K
def zgx (hp:List Blk) (g:Nat→Nat) (ι0:List Nat):List Nat→(List Blk→Prop)→Prop
  | [],K=>K []
  |i ::is,K=>zfe hp i fun b=>match b with
   | .mk el ps=>match ziv (zbv ι0) ps with
     |true=>zgx hp g ι0 is fun l=>K (.mk el (zdj g ps) ::l)
     |false=>False
   | .dead=>zgx hp g ι0 is fun l=>K (.dead ::l)
def zrf (g:Nat→Nat):List Nat→List Blk→List Blk→(List Blk→Prop)→Prop
  | [],new,hp,K=>newK new hp K
  |i ::is,b ::bs,hp,K=>zjm hp i (b.ren g) fun hp'=>zrf g is bs hp' K
  |_ ::_,[],_,_=>False
where newK:List Blk→List Blk→(List Blk→Prop)→Prop
  | [],hp,K=>K hp
  |b ::bs,hp,K=>zgk hp (b.ren g) fun hp'=>newK bs hp' K
def z79 (S:Spec) (args:List SV) (hp:List Blk) (K:SV→List Blk→Prop):Prop:=
  match ksL args with
  | []=>S args [] fun r h'=>match h' with
    | []=>match ksL [r] with| []=>K r hp|_=>False
    |_=>zkf hp fun n=>zrf (fun i=>n+i) [] h' hp fun hp'=>K (r.ren fun i=>n+i) hp'
  |_=>zlk hp 200 (ksL args) [] fun ι=>match zf3 ι with
   |true=>match ziv (zbv ι) args with
    |true=>zgx hp (zen ι) ι ι fun h=>S (zdj (zen ι) args) h fun r h'=>zkf hp fun n=>zrf (fwd ι n) ι h' hp fun hp'=>K (r.ren (fwd ι n)) hp'
    |false=>False
   |false=>False
def x2 (Γ:Ctx) (op:Op) (tm:List (Nat×SV)) (put:SV→Prop):Prop:=
  match op with
  | .move x| .assign x=>evK tm x put
  | .pick c a b=>evK tm c fun cv=>evK tm a fun av=>evK tm b fun bv=>match cv with
    | .bool t=>ye t (put av) (put bv)
    |_=>False
  | .build t ps=>zkt tm ps.toList fun given=>zts Γ t given put
  | .nilCheck x=>evK tm x fun v=>match v with
    | .ptr .. =>put v
    | .xptr _=>put v
    | .func .. =>put v
    |_=>False
  | .binOp op t x y _=>evK tm x fun a=>evK tm y fun b=>z0b Γ op t a b put
  | .unOp op _ x=>evK tm x fun a=>unK op a put
  | .slice t x lo hi mx=>evK tm x fun v=>zhk tm lo fun lo=>zhk tm hi fun hi=>zhk tm mx fun mx=>ztn Γ t v lo hi mx put
  | .field s x f=>yn Γ.ty s fun si=>match si.d with
    | .struct fs=>zfe fs f fun ft=>yn Γ.ty ft.2 fun fi=>evK tm x fun v=>match v.many with|true=>zcr v fun ps=>zg3 fi ps ft.1 put|false=>False
    |_=>False
  | .indexAddr t x i=>yn Γ.ty t fun ti=>evK tm x fun v=>evK tm i fun iv=>zvl iv fun ix=>match ti.d with
    | .arr n e=>yn Γ.ty e fun ei=>match v with
      | .ptr k j b oo=>Pre (ix<n) (put (.ptr k j b (yb oo ix ei.sz)))
      |_=>False
    | .sl e=>yn Γ.ty e fun ei=>match v with
      | .sl k j b oo n _=>Pre (ix<n) (put (.ptr k j b (yb oo ix ei.sz)))
      | .xsl a n _=>Pre (ix<n) (put (.xptr ((a.getD ⟨0,0,none⟩).add (ix*ei.sz))))
      |_=>False
    |_=>False
  | .index t x i=>yn Γ.ty t fun ti=>evK tm x fun v=>evK tm i fun iv=>zvl iv fun ix=>match v with
    | .str l=>match ti.d with
      | .str=>Pre (ix<l.length) (put (.u8 (l.getD ix 0)))
      |_=>False
    |v=>match ti.d with
     | .arr n e=>yn Γ.ty e fun ei=>match v.many with
       |true=>Pre (ix<n) (zn1 ei [v] 0 0 [(ix,ei.sz)] put)
       |false=>False
     |_=>False
  | .extract x i=>evK tm x fun v=>match v with
    | .tup vs=>zfe vs i put
    |_=>False
  | .convert s d x=>yn Γ.ty s fun _=>yn Γ.ty d fun di=>match di.d with
    | .int k=>evK tm x fun v=>zhi k v put
    |_=>False
  | .makeFunc fn first caps=>z34 tm caps.toList fun vs=>match fn with
    | .func f=>match first.toList with
      | []=>put (.func f vs)
      |_=>False
    |_=>False
  | .call c=>z34 tm c.args.toList fun args=>match c.callee with
    | .builtin .len=>match c.argTypes.toList with
      | [t]=>yn Γ.ty t fun ti=>match ti.d with
        | .str=>match args with
          | [.str l]=>put (.int l.length)
          |_=>False
        | .sl _=>match args with
          | [.sl _ _ _ _ n _]=>put (.int n)
          | [.nilsl]=>put (.int 0)
          | [.xsl _ n _]=>put (.int n)
          |_=>False
        | .arr n _=>match args with
          | [_]=>put (.int n)
          |_=>False
        |_=>False
      |_=>False
    | .builtin .min=>match args with
      | [.int a,.int b]=>put (.int (min a b))
      | [.int a,.int b,.int c]=>put (.int (min (min a b) c))
      |_=>False
    | .builtin .max=>match args with
      | [.int a,.int b]=>put (.int (max a b))
      | [.int a,.int b,.int c]=>put (.int (max (max a b) c))
      |_=>False
    |_=>False
  |_=>False
def ze6 (Γ:Ctx) (op:Op) (tm:List (Nat×SV)) (hp:List Blk) (put:SV→Prop):Prop:=
  match op with
  | .load t x=>yn Γ.ty t fun ti=>evK tm x fun v=>match v with
    | .ptr k j b oo=>zee hp k fun _ ps=>zn1 ti ps j b oo put
    | .xptr a=>zn9 (Γ.ext a t) put
    |_=>False
  | .fieldAddr s x f=>yn Γ.ty s fun si=>match si.d with
    | .struct fs=>zfe fs f fun ft=>yn Γ.ty ft.2 fun fi=>match fi.sz with
      |0=>False
      |_+1=>evK tm x fun v=>match v with
       | .ptr k j b oo=>match ft.1 with
         |0=>put (.ptr k j b oo)
         |c+1=>match oo with
          | []=>zee hp k fun _ ps=>zce ps j b fun _ r=>zg8 r j b (c+1) fun j' b' o'=>put (.ptr k j' b' o')
          |_=>put (.ptr k j b (yb oo (c+1) 1))
       | .xptr a=>put (.xptr (a.add ft.1))
       |_=>False
    |_=>False
  | .convert s d x=>yn Γ.ty s fun si=>yn Γ.ty d fun di=>match di.d with
    | .str=>evK tm x fun v=>match v with
      | .str l=>put (.str l)
      | .nilsl=>match si.d with
        | .sl e=>yn Γ.ty e fun ei=>match ei.d with
          | .int .u8=>put (.str [])
          |_=>False
        |_=>False
      | .sl .. =>match si.d with
        | .sl e=>yn Γ.ty e fun ei=>match ei.d with
          | .int .u8=>zi7 hp v fun l=>put (.str l)
          |_=>False
        |_=>False
      |_=>False
    |_=>False
  |_=>False
def zcx (Γ:Ctx) (op:Op) (tm:List (Nat×SV)) (n:Nat) (put:SV→Blk→Prop):Prop:=
  match op with
  | .alloc t=>yn Γ.ty t fun ti=>zcr ti.zero fun ps=>put (.ptr n 0 0 []) (.mk t ps)
  | .box t x=>evK tm x fun v=>zcr v fun ps=>put (.ptr n 0 0 []) (.mk t ps)
  | .buildSlice t m ps=>zkt tm ps.toList fun given=>yn Γ.ty t fun ti=>match ti.d with
    | .sl e=>yn Γ.ty e fun ei=>Pre (m*ei.sz≤16777216) (zw2 ei.zero m fun zs=>zez ei zs given fun ps=>put (.sl n 0 0 [] m m) (.mk e ps))
    |_=>False
  | .makeSlice t l c=>evK tm l fun lv=>evK tm c fun cv=>zvl lv fun l=>zvl cv fun c=>yn Γ.ty t fun ti=>match ti.d with
    | .sl e=>yn Γ.ty e fun ei=>Pre (l≤c∧ei.bytes*c≤281474976710656∧c<9223372036854775808) (zw2 ei.zero c fun ps=>put (.sl n 0 0 [] l c) (.mk e ps))
    |_=>False
  |_=>False
def zcm (Γ:Ctx) (op:Op) (tm:List (Nat×SV)) (hp:List Blk) (put:SV→List Blk→Prop) (skip:List Blk→Prop):Prop:=
  match op with
  | .store t x y=>yn Γ.ty t fun ti=>evK tm x fun v=>evK tm y fun u=>match v with
    | .ptr k j b oo=>zee hp k fun el ps=>zfv ti ps j b oo u fun ps'=>zjm hp k (.mk el ps') skip
    |_=>False
  | .convert s d x=>evK tm x fun a=>z9a Γ s d a hp put
  | .call c=>z34 tm c.args.toList fun args=>match c.callee with
    | .value f=>evK tm f fun fv=>match fv with
      | .func fi caps=>yn Γ.fn fi fun S=>zei args caps fun all=>z79 S all hp put
      |_=>False
    | .builtin .copy=>match args with
      | [d,s]=>match c.argTypes.toList with
        |t ::_=>z7o Γ t d s hp put
        | []=>False
      |_=>False
    | .builtin .append=>match args with
      | [s,x]=>match c.argTypes.toList with
        | [t,u]=>zsl Γ t u s x hp put
        |_=>False
      |_=>False
    |_=>False
  |_=>False
inductive Kind where
  |pure|read|maker|anchor
  deriving DecidableEq
def yik:Option TyI→Bool
  |some ⟨.int _,_,_,_,_⟩=>true
  |_=>false
def yjm:Option TyI→Bool
  |some ⟨.str,_,_,_,_⟩=>true
  |_=>false
def yeh {α:Type}:List (Nat×α)→Nat→Option α
  | [],_=>none
  |(i,v) ::r,n=>match Nat.beq i n with|true=>some v|false=>yeh r n
def zbx (Γ:Ctx) (op:Op):Kind:=
  match op with
  | .load .. | .fieldAddr .. => .read
  | .alloc _| .box .. | .buildSlice .. | .makeSlice .. => .maker
  | .store .. => .anchor
  | .convert _ d _=>match yik (yeh Γ.ty d) with
    |true=> .pure
    |false=>match yjm (yeh Γ.ty d) with|true=> .read|false=> .anchor
  | .call c=>match c.callee with
    | .builtin .len| .builtin .min| .builtin .max=> .pure
    |_=> .anchor
  |_=> .pure
def ya5 (Γ:Ctx) (o:Oper) (tm:List (Nat×SV)) (hp:List Blk) (K:St→Prop):Prop:=
  match zbx Γ o.op with
  | .pure=>x2 Γ o.op tm fun v=>zd0 Γ.nt tm hp o.dst v K
  | .read=>ze6 Γ o.op tm hp fun v=>zd0 Γ.nt tm hp o.dst v K
  | .maker=>zkf hp fun n=>zcx Γ o.op tm n fun v b=>zgk hp b fun hp'=>zd0 Γ.nt tm hp' o.dst v K
  | .anchor=>zcm Γ o.op tm hp (fun v hp'=>zd0 Γ.nt tm hp' o.dst v K) fun hp'=>match o.dst with
    |none=>K ⟨tm,hp'⟩
    |some _=>False
end Go.Sym
