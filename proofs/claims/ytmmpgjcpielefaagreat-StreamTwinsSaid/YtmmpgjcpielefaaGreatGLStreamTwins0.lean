/-
  Contracts of functions of the program, each said of symbolic values, and plain laws; no condition beyond each statement's own.
-/
import GoSem.Dispatch
import GoSem.Core.Code
set_option linter.unusedSimpArgs false
set_option linter.unusedVariables false
namespace Go.Sym
inductive At where
  |bool (b:Bool)
  |int (n:Int)
  |u8 (x:UInt8)
  |u16 (x:UInt16)
  |u32 (x:UInt32)
  |u64 (x:UInt64)
  |str (l:List UInt8)
  deriving Inhabited
inductive SV where
  |bool (b:Bool)
  |int (n:Int)
  |u8 (x:UInt8)
  |u16 (x:UInt16)
  |u32 (x:UInt32)
  |u64 (x:UInt64)
  |str (l:List UInt8)
  |ptr (k j b:Nat) (o:List (Nat×Nat))
  |nilptr
  |sl (k j b:Nat) (o:List (Nat×Nat)) (n c:Nat)
  |nilsl
  |func (f:FuncId) (caps:List SV)
  |nilfn
  |nilif
  |iface (t:TypeId) (v:SV)
  |arr8 (n:Nat) (l:List UInt8)
  |arr32 (n:Nat) (l:List UInt32)
  |arr64 (n:Nat) (l:List UInt64)
  |arri (n:Nat) (l:List Int)
  |arrs (n:Nat) (l:List (List UInt8))
  |tab (n es:Nat) (f:Nat→List At)
  |agg (ps:List SV)
  |tup (vs:List SV)
  |xptr (a:Addr)
  |xsl (a:Option Addr) (n c:Nat)
  deriving Inhabited
inductive Blk where
  |mk (el:TypeId) (ps:List SV)
  |dead
  deriving Inhabited
structure St where
  tm:List (Nat×SV)
  hp:List Blk
def zil (x:Nat×Nat):Nat:=match x with|(i,1)=>i|(i,e)=>i*e
def off:List (Nat×Nat)→Nat
  | []=>0
  | [x]=>zil x
  |x ::y ::r=>zil x+off (y ::r)
theorem zbx (x:Nat×Nat):zil x=x.1*x.2:=by
  obtain ⟨i,e⟩:=x
  unfold zil
  split
  ·rename_i h;cases h;simp
  ·rename_i h;cases h;rfl
theorem zrz (x:Nat×Nat) (r:List (Nat×Nat)):off (x ::r)=x.1*x.2+off r:=by
  cases r with
  |nil=>simp [off,zbx]
  |cons y r=>simp [off,zbx]
def At.val:At→Value
  | .bool b=> .bool b
  | .int n=> .int .i64 n
  | .u8 x=> .int .u8 (x.toNat:Int)
  | .u16 x=> .int .u16 (x.toNat:Int)
  | .u32 x=> .int .u32 (x.toNat:Int)
  | .u64 x=> .int .u64 (x.toNat:Int)
  | .str l=> .string ⟨l.toArray⟩
def At.sv:At→SV
  | .bool b=> .bool b
  | .int n=> .int n
  | .u8 x=> .u8 x
  | .u16 x=> .u16 x
  | .u32 x=> .u32 x
  | .u64 x=> .u64 x
  | .str l=> .str l
def c8 (l:List UInt8):List Value:=l.map fun x=> .int .u8 (x.toNat:Int)
def c32 (l:List UInt32):List Value:=l.map fun x=> .int .u32 (x.toNat:Int)
def c64 (l:List UInt64):List Value:=l.map fun x=> .int .u64 (x.toNat:Int)
def ci (l:List Int):List Value:=l.map fun x=> .int .i64 x
def cs (l:List (List UInt8)):List Value:=l.map fun x=> .string ⟨x.toArray⟩
def x5 (n:Nat) (f:Nat→List At):List Value:=(List.range n).flatMap fun i=>(f i).map At.val
mutual
def SV.cells (ρ:Nat→Nat):SV→List Value
  | .bool b=> [.bool b]
  | .int n=> [.int .i64 n]
  | .u8 x=> [.int .u8 (x.toNat:Int)]
  | .u16 x=> [.int .u16 (x.toNat:Int)]
  | .u32 x=> [.int .u32 (x.toNat:Int)]
  | .u64 x=> [.int .u64 (x.toNat:Int)]
  | .str l=> [.string ⟨l.toArray⟩]
  | .ptr k _ b o=> [.pointer (some ⟨ρ k,b+off o,none⟩)]
  | .nilptr=> [.pointer none]
  | .sl k _ b o n c=> [.slice (some ⟨ρ k,b+off o,none⟩) n c]
  | .nilsl=> [.slice none 0 0]
  | .func f caps=> [.func (.func f) #[] (y4 ρ caps).toArray]
  | .nilfn=> [.nilFunc]
  | .nilif=> [.nilIface]
  | .iface t v=> [.iface t (v.den ρ)]
  | .arr8 _ l=>c8 l
  | .arr32 _ l=>c32 l
  | .arr64 _ l=>c64 l
  | .arri _ l=>ci l
  | .arrs _ l=>cs l
  | .tab n _ f=>x5 n f
  | .agg ps=>zq ρ ps
  | .tup vs=> [.tuple (y4 ρ vs).toArray]
  | .xptr a=> [.pointer (some a)]
  | .xsl a n c=> [.slice a n c]
def zq (ρ:Nat→Nat):List SV→List Value
  | []=> []
  |v ::vs=>v.cells ρ++zq ρ vs
def SV.den (ρ:Nat→Nat):SV→Value
  | .bool b=> .bool b
  | .int n=> .int .i64 n
  | .u8 x=> .int .u8 (x.toNat:Int)
  | .u16 x=> .int .u16 (x.toNat:Int)
  | .u32 x=> .int .u32 (x.toNat:Int)
  | .u64 x=> .int .u64 (x.toNat:Int)
  | .str l=> .string ⟨l.toArray⟩
  | .ptr k _ b o=> .pointer (some ⟨ρ k,b+off o,none⟩)
  | .nilptr=> .pointer none
  | .sl k _ b o n c=> .slice (some ⟨ρ k,b+off o,none⟩) n c
  | .nilsl=> .slice none 0 0
  | .func f caps=> .func (.func f) #[] (y4 ρ caps).toArray
  | .nilfn=> .nilFunc
  | .nilif=> .nilIface
  | .iface t v=> .iface t (v.den ρ)
  | .arr8 _ l=> .agg (c8 l).toArray
  | .arr32 _ l=> .agg (c32 l).toArray
  | .arr64 _ l=> .agg (c64 l).toArray
  | .arri _ l=> .agg (ci l).toArray
  | .arrs _ l=> .agg (cs l).toArray
  | .tab n _ f=> .agg (x5 n f).toArray
  | .agg ps=> .agg (zq ρ ps).toArray
  | .tup vs=> .tuple (y4 ρ vs).toArray
  | .xptr a=> .pointer (some a)
  | .xsl a n c=> .slice a n c
def y4 (ρ:Nat→Nat):List SV→List Value
  | []=> []
  |v ::vs=>v.den ρ ::y4 ρ vs
end
mutual
def SV.size:SV→Nat
  | .arr8 n _=>n
  | .arr32 n _=>n
  | .arr64 n _=>n
  | .arri n _=>n
  | .arrs n _=>n
  | .tab n es _=>n*es
  | .agg ps=>z8 ps
  |_=>1
def z8:List SV→Nat
  | []=>0
  |v ::vs=>v.size+z8 vs
end
mutual
def SV.ok (p:Nat→Prop):SV→Prop
  | .ptr k _ _ _=>p k
  | .sl k _ _ _ _ _=>p k
  | .xsl a n _=>a.isSome=true∨n=0
  | .arr8 n l=>l.length=n
  | .arr32 n l=>l.length=n
  | .arr64 n l=>l.length=n
  | .arri n l=>l.length=n
  | .arrs n l=>l.length=n
  | .tab n es f=> ∀i,i<n→(f i).length=es
  | .agg ps=>okL p ps
  | .tup vs=>okL p vs
  | .func _ caps=>okL p caps
  | .iface _ v=>v.ok p
  |_=>True
def okL (p:Nat→Prop):List SV→Prop
  | []=>True
  |v ::vs=>v.ok p∧okL p vs
end
mutual
def SV.all (p:Nat→Bool):SV→Bool
  | .ptr k _ _ _=>p k
  | .sl k _ _ _ _ _=>p k
  | .agg ps=>zhe p ps
  | .tup vs=>zhe p vs
  | .func _ caps=>zhe p caps
  | .iface _ v=>v.all p
  |_=>true
def zhe (p:Nat→Bool):List SV→Bool
  | []=>true
  |v ::vs=>match v.all p with|true=>zhe p vs|false=>false
end
mutual
def SV.ks:SV→List Nat
  | .ptr k _ _ _=> [k]
  | .sl k _ _ _ _ _=> [k]
  | .agg ps=>ksL ps
  | .tup vs=>ksL vs
  | .func _ caps=>ksL caps
  | .iface _ v=>v.ks
  |_=> []
def ksL:List SV→List Nat
  | []=> []
  |v ::vs=>v.ks++ksL vs
end
mutual
def SV.ren (g:Nat→Nat):SV→SV
  | .ptr k j b o=> .ptr (g k) j b o
  | .sl k j b o n c=> .sl (g k) j b o n c
  | .func f caps=> .func f (zb2 g caps)
  | .iface t v=> .iface t (v.ren g)
  | .agg ps=> .agg (zb2 g ps)
  | .tup vs=> .tup (zb2 g vs)
  | .bool b=> .bool b
  | .int n=> .int n
  | .u8 x=> .u8 x
  | .u16 x=> .u16 x
  | .u32 x=> .u32 x
  | .u64 x=> .u64 x
  | .str l=> .str l
  | .nilptr=> .nilptr
  | .nilsl=> .nilsl
  | .nilfn=> .nilfn
  | .nilif=> .nilif
  | .xptr a=> .xptr a
  | .xsl a n c=> .xsl a n c
  | .arr8 n l=> .arr8 n l
  | .arr32 n l=> .arr32 n l
  | .arr64 n l=> .arr64 n l
  | .arri n l=> .arri n l
  | .arrs n l=> .arrs n l
  | .tab n es f=> .tab n es f
def zb2 (g:Nat→Nat):List SV→List SV
  | []=> []
  |v ::vs=>v.ren g ::zb2 g vs
end
def Blk.ren (g:Nat→Nat):Blk→Blk
  | .mk el ps=> .mk el (zb2 g ps)
  | .dead=> .dead
theorem xq (n es:Nat) (f:Nat→List At) (h: ∀i,i<n→(f i).length=es):(x5 n f).length=n*es:=by
  unfold x5
  induction n with
  |zero=>simp
  |succ n ih=>
   rw [List.range_succ,List.flatMap_append,List.length_append,ih (fun i hi=>h i (by omega))]
   simp [h n (by omega),Nat.add_mul]
mutual
theorem SV.cells_length {p:Nat→Prop} (ρ:Nat→Nat): ∀v:SV,v.ok p→(v.cells ρ).length=v.size
  | .bool _,_=>rfl
  | .int _,_=>rfl
  | .u8 _,_=>rfl
  | .u16 _,_=>rfl
  | .u32 _,_=>rfl
  | .u64 _,_=>rfl
  | .str _,_=>rfl
  | .ptr ..,_=>rfl
  | .nilptr,_=>rfl
  | .sl ..,_=>rfl
  | .nilsl,_=>rfl
  | .func ..,_=>rfl
  | .nilfn,_=>rfl
  | .nilif,_=>rfl
  | .xptr _,_=>rfl
  | .xsl ..,_=>rfl
  | .iface ..,_=>rfl
  | .arr8 n l,h=>by simpa [SV.cells,SV.size,SV.ok,c8] using h
  | .arr32 n l,h=>by simpa [SV.cells,SV.size,SV.ok,c32] using h
  | .arr64 n l,h=>by simpa [SV.cells,SV.size,SV.ok,c64] using h
  | .arri n l,h=>by simpa [SV.cells,SV.size,SV.ok,ci] using h
  | .arrs n l,h=>by simpa [SV.cells,SV.size,SV.ok,cs] using h
  | .tab n es f,h=>by simpa [SV.cells,SV.size] using xq n es f (by simpa [SV.ok] using h)
  | .agg ps,h=>by simpa [SV.cells,SV.size] using xc ρ ps (by simpa [SV.ok] using h)
  | .tup _,_=>rfl
theorem xc {p:Nat→Prop} (ρ:Nat→Nat): ∀vs:List SV,okL p vs→(zq ρ vs).length=z8 vs
  | [],_=>rfl
  |v ::vs,h=>by
   simp only [okL] at h
   simp [zq,z8,SV.cells_length ρ v h.1,xc ρ vs h.2]
end
mutual
theorem SV.cells_ren (ρ g:Nat→Nat): ∀v:SV,(v.ren g).cells ρ=v.cells (fun k=>ρ (g k))
  | .bool _=>rfl
  | .int _=>rfl
  | .u8 _=>rfl
  | .u16 _=>rfl
  | .u32 _=>rfl
  | .u64 _=>rfl
  | .str _=>rfl
  | .ptr .. =>rfl
  | .nilptr=>rfl
  | .sl .. =>rfl
  | .nilsl=>rfl
  | .func f caps=>by simp [SV.ren,SV.cells,zdv ρ g caps]
  | .nilfn=>rfl
  | .nilif=>rfl
  | .xptr _=>rfl
  | .xsl .. =>rfl
  | .iface t v=>by simp [SV.ren,SV.cells,SV.den_ren ρ g v]
  | .arr8 .. =>rfl
  | .arr32 .. =>rfl
  | .arr64 .. =>rfl
  | .arri .. =>rfl
  | .arrs .. =>rfl
  | .tab .. =>rfl
  | .agg ps=>by simp [SV.ren,SV.cells,za8 ρ g ps]
  | .tup vs=>by simp [SV.ren,SV.cells,zdv ρ g vs]
theorem za8 (ρ g:Nat→Nat): ∀vs:List SV,zq ρ (zb2 g vs)=zq (fun k=>ρ (g k)) vs
  | []=>rfl
  |v ::vs=>by simp [zb2,zq,SV.cells_ren ρ g v,za8 ρ g vs]
theorem SV.den_ren (ρ g:Nat→Nat): ∀v:SV,(v.ren g).den ρ=v.den (fun k=>ρ (g k))
  | .bool _=>rfl
  | .int _=>rfl
  | .u8 _=>rfl
  | .u16 _=>rfl
  | .u32 _=>rfl
  | .u64 _=>rfl
  | .str _=>rfl
  | .ptr .. =>rfl
  | .nilptr=>rfl
  | .sl .. =>rfl
  | .nilsl=>rfl
  | .func f caps=>by simp [SV.ren,SV.den,zdv ρ g caps]
  | .nilfn=>rfl
  | .nilif=>rfl
  | .xptr _=>rfl
  | .xsl .. =>rfl
  | .iface t v=>by simp [SV.ren,SV.den,SV.den_ren ρ g v]
  | .arr8 .. =>rfl
  | .arr32 .. =>rfl
  | .arr64 .. =>rfl
  | .arri .. =>rfl
  | .arrs .. =>rfl
  | .tab .. =>rfl
  | .agg ps=>by simp [SV.ren,SV.den,za8 ρ g ps]
  | .tup vs=>by simp [SV.ren,SV.den,zdv ρ g vs]
theorem zdv (ρ g:Nat→Nat): ∀vs:List SV,y4 ρ (zb2 g vs)=y4 (fun k=>ρ (g k)) vs
  | []=>rfl
  |v ::vs=>by simp [zb2,y4,SV.den_ren ρ g v,zdv ρ g vs]
end
mutual
theorem SV.ok_ren {p q:Nat→Prop} (g:Nat→Nat) (hg: ∀k,p k→q (g k)): ∀v:SV,v.ok p→(v.ren g).ok q
  | .bool _,_=>trivial
  | .int _,_=>trivial
  | .u8 _,_=>trivial
  | .u16 _,_=>trivial
  | .u32 _,_=>trivial
  | .u64 _,_=>trivial
  | .str _,_=>trivial
  | .nilptr,_=>trivial
  | .nilsl,_=>trivial
  | .nilfn,_=>trivial
  | .nilif,_=>trivial
  | .xptr _,_=>trivial
  | .xsl ..,h=>h
  | .ptr k _ _ _,h=>hg k h
  | .sl k _ _ _ _ _,h=>hg k h
  | .func _ caps,h=>by simp only [SV.ren,SV.ok] at h ⊢;exact zdd g hg caps h
  | .iface _ v,h=>by simp only [SV.ren,SV.ok] at h ⊢;exact SV.ok_ren g hg v h
  | .arr8 _ _,h=>h
  | .arr32 _ _,h=>h
  | .arr64 _ _,h=>h
  | .arri _ _,h=>h
  | .arrs _ _,h=>h
  | .tab _ _ _,h=>h
  | .agg ps,h=>by simp only [SV.ren,SV.ok] at h ⊢;exact zdd g hg ps h
  | .tup vs,h=>by simp only [SV.ren,SV.ok] at h ⊢;exact zdd g hg vs h
theorem zdd {p q:Nat→Prop} (g:Nat→Nat) (hg: ∀k,p k→q (g k)): ∀vs:List SV,okL p vs→okL q (zb2 g vs)
  | [],_=>trivial
  |v ::vs,h=>⟨SV.ok_ren g hg v h.1,zdd g hg vs h.2⟩
end
mutual
theorem SV.ok_mono {p q:Nat→Prop} (hg: ∀k,p k→q k): ∀v:SV,v.ok p→v.ok q
  | .bool _,_=>trivial
  | .int _,_=>trivial
  | .u8 _,_=>trivial
  | .u16 _,_=>trivial
  | .u32 _,_=>trivial
  | .u64 _,_=>trivial
  | .str _,_=>trivial
  | .nilptr,_=>trivial
  | .nilsl,_=>trivial
  | .nilfn,_=>trivial
  | .nilif,_=>trivial
  | .xptr _,_=>trivial
  | .xsl ..,h=>h
  | .ptr k _ _ _,h=>hg k h
  | .sl k _ _ _ _ _,h=>hg k h
  | .func _ caps,h=>by simp only [SV.ok] at h ⊢;exact yq hg caps h
  | .iface _ v,h=>by simp only [SV.ok] at h ⊢;exact SV.ok_mono hg v h
  | .arr8 _ _,h=>h
  | .arr32 _ _,h=>h
  | .arr64 _ _,h=>h
  | .arri _ _,h=>h
  | .arrs _ _,h=>h
  | .tab _ _ _,h=>h
  | .agg ps,h=>by simp only [SV.ok] at h ⊢;exact yq hg ps h
  | .tup vs,h=>by simp only [SV.ok] at h ⊢;exact yq hg vs h
theorem yq {p q:Nat→Prop} (hg: ∀k,p k→q k): ∀vs:List SV,okL p vs→okL q vs
  | [],_=>trivial
  |v ::vs,h=>⟨SV.ok_mono hg v h.1,yq hg vs h.2⟩
end
mutual
theorem SV.ok_all {p:Nat→Prop} {b:Nat→Bool}: ∀v:SV,v.ok p→v.all b=true→v.ok (fun k=>b k=true)
  | .bool _,_,_=>trivial
  | .int _,_,_=>trivial
  | .u8 _,_,_=>trivial
  | .u16 _,_,_=>trivial
  | .u32 _,_,_=>trivial
  | .u64 _,_,_=>trivial
  | .str _,_,_=>trivial
  | .nilptr,_,_=>trivial
  | .nilsl,_,_=>trivial
  | .nilfn,_,_=>trivial
  | .nilif,_,_=>trivial
  | .xptr _,_,_=>trivial
  | .xsl ..,h,_=>h
  | .ptr k _ _ _,_,h=>h
  | .sl k _ _ _ _ _,_,h=>h
  | .func _ caps,h,h'=>by simp only [SV.ok,SV.all] at h h' ⊢;exact zdc caps h h'
  | .iface _ v,h,h'=>by simp only [SV.ok,SV.all] at h h' ⊢;exact SV.ok_all v h h'
  | .arr8 _ _,h,_=>h
  | .arr32 _ _,h,_=>h
  | .arr64 _ _,h,_=>h
  | .arri _ _,h,_=>h
  | .arrs _ _,h,_=>h
  | .tab _ _ _,h,_=>h
  | .agg ps,h,h'=>by simp only [SV.ok,SV.all] at h h' ⊢;exact zdc ps h h'
  | .tup vs,h,h'=>by simp only [SV.ok,SV.all] at h h' ⊢;exact zdc vs h h'
theorem zdc {p:Nat→Prop} {b:Nat→Bool}: ∀vs:List SV,okL p vs→zhe b vs=true→okL (fun k=>b k=true) vs
  | [],_,_=>trivial
  |v ::vs,h,h'=>by
   have hv:v.all b=true∧zhe b vs=true:=by
     cases hb:v.all b<;>simp [zhe,hb] at h' ⊢
     exact h'
   exact ⟨SV.ok_all v h.1 hv.1,zdc vs h.2 hv.2⟩
end
mutual
theorem SV.cells_congr {p:Nat→Prop} {ρ ρ':Nat→Nat} (hp: ∀k,p k→ρ k=ρ' k): ∀v:SV,v.ok p→v.cells ρ=v.cells ρ'
  | .bool _,_=>rfl
  | .int _,_=>rfl
  | .u8 _,_=>rfl
  | .u16 _,_=>rfl
  | .u32 _,_=>rfl
  | .u64 _,_=>rfl
  | .str _,_=>rfl
  | .nilptr,_=>rfl
  | .nilsl,_=>rfl
  | .nilfn,_=>rfl
  | .nilif,_=>rfl
  | .xptr _,_=>rfl
  | .xsl ..,_=>rfl
  | .ptr k _ _ _,h=>by simp only [SV.cells,hp k h]
  | .sl k _ _ _ _ _,h=>by simp only [SV.cells,hp k h]
  | .func _ caps,h=>by simp only [SV.ok] at h;simp only [SV.cells,zbw hp caps h]
  | .iface _ v,h=>by simp only [SV.ok] at h;simp only [SV.cells,SV.den_congr hp v h]
  | .arr8 _ _,_=>rfl
  | .arr32 _ _,_=>rfl
  | .arr64 _ _,_=>rfl
  | .arri _ _,_=>rfl
  | .arrs _ _,_=>rfl
  | .tab _ _ _,_=>rfl
  | .agg ps,h=>by simp only [SV.ok] at h;simp only [SV.cells,xf hp ps h]
  | .tup vs,h=>by simp only [SV.ok] at h;simp only [SV.cells,zbw hp vs h]
theorem xf {p:Nat→Prop} {ρ ρ':Nat→Nat} (hp: ∀k,p k→ρ k=ρ' k): ∀vs:List SV,okL p vs→zq ρ vs=zq ρ' vs
  | [],_=>rfl
  |v ::vs,h=>by simp only [zq,SV.cells_congr hp v h.1,xf hp vs h.2]
theorem SV.den_congr {p:Nat→Prop} {ρ ρ':Nat→Nat} (hp: ∀k,p k→ρ k=ρ' k): ∀v:SV,v.ok p→v.den ρ=v.den ρ'
  | .bool _,_=>rfl
  | .int _,_=>rfl
  | .u8 _,_=>rfl
  | .u16 _,_=>rfl
  | .u32 _,_=>rfl
  | .u64 _,_=>rfl
  | .str _,_=>rfl
  | .nilptr,_=>rfl
  | .nilsl,_=>rfl
  | .nilfn,_=>rfl
  | .nilif,_=>rfl
  | .xptr _,_=>rfl
  | .xsl ..,_=>rfl
  | .ptr k _ _ _,h=>by simp only [SV.den,hp k h]
  | .sl k _ _ _ _ _,h=>by simp only [SV.den,hp k h]
  | .func _ caps,h=>by simp only [SV.ok] at h;simp only [SV.den,zbw hp caps h]
  | .iface _ v,h=>by simp only [SV.ok] at h;simp only [SV.den,SV.den_congr hp v h]
  | .arr8 _ _,_=>rfl
  | .arr32 _ _,_=>rfl
  | .arr64 _ _,_=>rfl
  | .arri _ _,_=>rfl
  | .arrs _ _,_=>rfl
  | .tab _ _ _,_=>rfl
  | .agg ps,h=>by simp only [SV.ok] at h;simp only [SV.den,xf hp ps h]
  | .tup vs,h=>by simp only [SV.ok] at h;simp only [SV.den,zbw hp vs h]
theorem zbw {p:Nat→Prop} {ρ ρ':Nat→Nat} (hp: ∀k,p k→ρ k=ρ' k): ∀vs:List SV,okL p vs→y4 ρ vs=y4 ρ' vs
  | [],_=>rfl
  |v ::vs,h=>by simp only [y4,SV.den_congr hp v h.1,zbw hp vs h.2]
end
theorem y9 {p:Nat→Prop} {a b:List SV}:okL p (a++b)↔okL p a∧okL p b:=by
  induction a with
  |nil=>simp [okL]
  |cons x r ih=>simp [okL,ih,and_assoc]
theorem yd (ρ:Nat→Nat) (a b:List SV):zq ρ (a++b)=zq ρ a++zq ρ b:=by
  induction a with
  |nil=>simp [zq]
  |cons x r ih=>simp [zq,ih]
theorem zj9 (ρ:Nat→Nat) (vs:List SV):(y4 ρ vs).length=vs.length:=by
  induction vs with
  |nil=>rfl
  |cons v vs ih=>simp [y4,ih]
def SV.scalar:SV→Bool
  | .arr8 .. | .arr32 .. | .arr64 .. | .arri .. | .arrs .. | .tab .. | .agg _| .tup _=>false
  |_=>true
def SV.many:SV→Bool
  | .arr8 .. | .arr32 .. | .arr64 .. | .arri .. | .arrs .. | .tab .. | .agg _=>true
  |_=>false
theorem zar {ρ:Nat→Nat} {v:SV} (h:v.scalar=true):v.cells ρ= [v.den ρ]:=by
  cases v<;>first|rfl|(simp [SV.scalar] at h)
theorem zca {ρ:Nat→Nat} {v:SV} (h:v.many=true):v.den ρ= .agg (v.cells ρ).toArray:=by
  cases v<;>first|rfl|(simp [SV.many] at h)|simp [SV.den,SV.cells]
theorem zcr (ρ:Nat→Nat) (v:SV):(v.den ρ).cells=(v.cells ρ).toArray:=by
  cases v<;>simp [SV.den,SV.cells,Value.cells]
theorem At.val_eq (ρ:Nat→Nat) (a:At):a.val=a.sv.den ρ:=by cases a<;>rfl
theorem At.sv_ok {p:Nat→Prop} (a:At):a.sv.ok p:=by cases a<;>simp [At.sv,SV.ok]
theorem At.sv_scalar (a:At):a.sv.scalar=true:=by cases a<;>rfl
end Go.Sym

namespace Go.Sym
inductive Ty where
  |int (k:IntKind)|bool|str|ptr|sl (e:TypeId)|arr (n:Nat) (e:TypeId)|struct (fs:List (Nat×TypeId))|func|iface|other
  deriving Inhabited
structure TyI where
  d:Ty
  sz:Nat
  bytes:Nat
  zero:SV
  eqOk:Bool:=false
abbrev Spec:=List SV→List Blk→(SV→List Blk→Prop)→Prop
structure Ctx where
  nt:Nat
  ty:List (Nat×TyI)
  fn:List (Nat×Spec)
  E:World→Prop:=fun _=>True
  ext:Addr→TypeId→SV→Prop:=fun _ _ _=>False
def Pre (p q:Prop):Prop:=p∧q
def zv (t:Bool) (a b:Prop):Prop:=(t=true→a)∧(t=false→b)
def zag {α:Type} (f:α→Prop):Prop:= ∀x,f x
def zl9 (R k:SV→Prop):Prop:= ∃v,R v∧k v
attribute [irreducible] Pre zv zag zl9
theorem zzo {R k:SV→Prop} (v:SV) (h:R v) (h':k v):zl9 R k:=by unfold zl9;exact ⟨v,h,h'⟩
theorem z6h {R k:SV→Prop} (h:zl9 R k): ∃v,R v∧k v:=by unfold zl9 at h;exact h
theorem zr {p q:Prop} (h:p) (h':q):Pre p q:=by unfold Pre;exact ⟨h,h'⟩
theorem zm {p q:Prop} (h:Pre p q):p∧q:=by unfold Pre at h;exact h
theorem za9 {t:Bool} {a b:Prop} (h:t=true→a) (h':t=false→b):zv t a b:=by unfold zv;exact ⟨h,h'⟩
theorem zt {t:Bool} {a b:Prop} (h:zv t a b):(t=true→a)∧(t=false→b):=by unfold zv at h;exact h
theorem zi {t:Bool} {a b:Prop} (e:t=true) (h:a):zv t a b:=za9 (fun _=>h) (fun h=>by rw [e] at h;cases h)
theorem zj {t:Bool} {a b:Prop} (e:t=false) (h:b):zv t a b:=za9 (fun h=>by rw [e] at h;cases h) (fun _=>h)
theorem yh {α:Type} {f:α→Prop} (h: ∀x,f x):zag f:=by unfold zag;exact h
theorem xp {α:Type} {f:α→Prop} (h:zag f): ∀x,f x:=by unfold zag at h;exact h
def ze0 {α:Type}:List α→α→(List α→Prop)→Prop
  | [],x,k=>k [x]
  |y ::ys,x,k=>ze0 ys x fun l=>k (y ::l)
def zc5 {α:Type}:List α→List α→(List α→Prop)→Prop
  | [],b,k=>k b
  |y ::ys,b,k=>zc5 ys b fun l=>k (y ::l)
def zii {α:Type}:List α→Nat→α→(List α→Prop)→Prop
  | [],_,_,_=>False
  |_ ::xs,0,y,k=>k (y ::xs)
  |x ::xs,n+1,y,k=>zii xs n y fun l=>k (x ::l)
def zdi {α:Type}:List α→Nat→(α→Prop)→Prop
  | [],_,_=>False
  |x ::_,0,k=>k x
  |_ ::xs,n+1,k=>zdi xs n k
def yf {α:Type}:List (Nat×α)→Nat→(α→Prop)→Prop
  | [],_,_=>False
  |(i,v) ::r,n,k=>match Nat.beq i n with|true=>k v|false=>yf r n k
def zi1 {α:Type} (l:List α) (k:Nat→Prop):Prop:=
  match l with
  | []=>k 0
  | [_]=>k 1
  | [_,_]=>k 2
  | [_,_,_]=>k 3
  | [_,_,_,_]=>k 4
  | [_,_,_,_,_]=>k 5
  | [_,_,_,_,_,_]=>k 6
  | [_,_,_,_,_,_,_]=>k 7
  | [_,_,_,_,_,_,_,_]=>k 8
  | [_,_,_,_,_,_,_,_,_]=>k 9
  | [_,_,_,_,_,_,_,_,_,_]=>k 10
  | [_,_,_,_,_,_,_,_,_,_,_]=>k 11
  | [_,_,_,_,_,_,_,_,_,_,_,_]=>k 12
  | [_,_,_,_,_,_,_,_,_,_,_,_,_]=>k 13
  | [_,_,_,_,_,_,_,_,_,_,_,_,_,_]=>k 14
  | [_,_,_,_,_,_,_,_,_,_,_,_,_,_,_]=>k 15
  | [_,_,_,_,_,_,_,_,_,_,_,_,_,_,_,_]=>k 16
  | [_,_,_,_,_,_,_,_,_,_,_,_,_,_,_,_,_]=>k 17
  | [_,_,_,_,_,_,_,_,_,_,_,_,_,_,_,_,_,_]=>k 18
  | [_,_,_,_,_,_,_,_,_,_,_,_,_,_,_,_,_,_,_]=>k 19
  | [_,_,_,_,_,_,_,_,_,_,_,_,_,_,_,_,_,_,_,_]=>k 20
  | [_,_,_,_,_,_,_,_,_,_,_,_,_,_,_,_,_,_,_,_,_]=>k 21
  | [_,_,_,_,_,_,_,_,_,_,_,_,_,_,_,_,_,_,_,_,_,_]=>k 22
  | [_,_,_,_,_,_,_,_,_,_,_,_,_,_,_,_,_,_,_,_,_,_,_]=>k 23
  | [_,_,_,_,_,_,_,_,_,_,_,_,_,_,_,_,_,_,_,_,_,_,_,_]=>k 24
  | [_,_,_,_,_,_,_,_,_,_,_,_,_,_,_,_,_,_,_,_,_,_,_,_,_]=>k 25
  | [_,_,_,_,_,_,_,_,_,_,_,_,_,_,_,_,_,_,_,_,_,_,_,_,_,_]=>k 26
  | [_,_,_,_,_,_,_,_,_,_,_,_,_,_,_,_,_,_,_,_,_,_,_,_,_,_,_]=>k 27
  | [_,_,_,_,_,_,_,_,_,_,_,_,_,_,_,_,_,_,_,_,_,_,_,_,_,_,_,_]=>k 28
  | [_,_,_,_,_,_,_,_,_,_,_,_,_,_,_,_,_,_,_,_,_,_,_,_,_,_,_,_,_]=>k 29
  | [_,_,_,_,_,_,_,_,_,_,_,_,_,_,_,_,_,_,_,_,_,_,_,_,_,_,_,_,_,_]=>k 30
  | [_,_,_,_,_,_,_,_,_,_,_,_,_,_,_,_,_,_,_,_,_,_,_,_,_,_,_,_,_,_,_]=>k 31
  | [_,_,_,_,_,_,_,_,_,_,_,_,_,_,_,_,_,_,_,_,_,_,_,_,_,_,_,_,_,_,_,_]=>k 32
  |l=>k l.length
def zm3 (v:Value) (k:SV→Prop):Prop:=
  match v with
  | .bool b=>k (.bool b)
  | .int .i64 n=>k (.int n)
  | .int .u8 (.ofNat n)=>match Nat.blt n 256 with|true=>k (.u8 (UInt8.ofNat n))|false=>False
  | .int .u16 (.ofNat n)=>match Nat.blt n 65536 with|true=>k (.u16 (UInt16.ofNat n))|false=>False
  | .int .u32 (.ofNat n)=>match Nat.blt n 4294967296 with|true=>k (.u32 (UInt32.ofNat n))|false=>False
  | .int .u64 (.ofNat n)=>match Nat.blt n 18446744073709551616 with|true=>k (.u64 (UInt64.ofNat n))|false=>False
  | .string ⟨⟨l⟩⟩=>k (.str l)
  | .pointer none=>k .nilptr
  | .slice none 0 0=>k .nilsl
  | .nilFunc=>k .nilfn
  | .nilIface=>k .nilif
  |_=>False
def evK (tm:List (Nat×SV)) (x:Operand) (k:SV→Prop):Prop:=
  match x with
  | .tmp t=>yf tm t k
  | .const v=>zm3 v k
  | .func f=>k (.func f [])
  | .global _=>False
def zxj (tm:List (Nat×SV)):List Operand→(List SV→Prop)→Prop
  | [],k=>k []
  |x ::xs,k=>evK tm x fun v=>zxj tm xs fun vs=>k (v ::vs)
def zcw (nt:Nat) (tm:List (Nat×SV)) (hp:List Blk) (d:Option Nat) (v:SV) (K:St→Prop):Prop:=
  match d with
  |some d=>match Nat.blt d nt with|true=>K ⟨(d,v) ::tm,hp⟩|false=>False
  |none=>K ⟨tm,hp⟩
def SV.isRow:SV→Bool
  | .arr8 .. | .arr32 .. | .arr64 .. | .arri .. | .arrs .. | .tab .. =>true
  |_=>false
mutual
def zbp:SV→(List SV→Prop)→Prop
  | .agg ps,k=>zd7 ps k
  |v,k=>k [v]
def zd7:List SV→(List SV→Prop)→Prop
  | [],k=>k []
  |v ::vs,k=>zbp v fun a=>zd7 vs fun b=>zc5 a b k
end
def zbh:List SV→Nat→Nat→(List SV→List SV→Prop)→Prop
  |ps,0,b,k=>match Nat.beq b 0 with|true=>k [] ps|false=>False
  | [],_+1,_,_=>False
  |p ::ps,j+1,b,k=>match Nat.ble p.size b with|true=>zbh ps j (b-p.size) fun a r=>k (p ::a) r|false=>False
def zfd:List SV→Nat→(List SV→List SV→Prop)→Prop
  |ps,0,k=>k [] ps
  | [],_+1,_=>False
  |p ::ps,n+1,k=>match Nat.ble p.size (n+1) with|true=>zfd ps (n+1-p.size) fun a r=>k (p ::a) r|false=>False
def zhw (ps:List SV) (k:SV→Prop):Prop:=
  match ps with
  | [p]=>match p.isRow with|true=>k p|false=>k (.agg [p])
  |ps=>k (.agg ps)
def zfz:List SV→(j b c:Nat)→(Nat→Nat→List (Nat×Nat)→Prop)→Prop
  |_,j,b,0,k=>k j b []
  | [],_,_,_+1,_=>False
  |p ::ps,j,b,c+1,k=>match Nat.ble p.size (c+1) with
   |true=>zfz ps (j+1) (b+p.size) (c+1-p.size) k
   |false=>match p.isRow with|true=>k j b [(c+1,1)]|false=>False
def yb:List (Nat×Nat)→Nat→Nat→List (Nat×Nat)
  | [],i,e=> [(i,e)]
  |(i',e') :: [],i,e=>match Nat.beq e' e with|true=> [(i'+i,e)]|false=> [(i',e'),(i,e)]
  |x ::y ::r,i,e=>x ::yb (y ::r) i e
def zj1 (o:List (Nat×Nat)) (es:Nat) (k:Nat→Nat→Prop):Prop:=
  match o with
  | []=>k 0 0
  | [(i,e)]=>match Nat.beq e es with|true=>k i 0|false=>False
  | [(i,e),(c,1)]=>match Nat.beq e es with|true=>k i c|false=>False
  |_=>False
def atK (a:At) (k:SV→Prop):Prop:=
  match a with
  | .bool b=>k (.bool b)| .int n=>k (.int n)| .u8 x=>k (.u8 x)| .u16 x=>k (.u16 x)| .u32 x=>k (.u32 x)| .u64 x=>k (.u64 x)| .str l=>k (.str l)
def z4n:List At→(List SV→Prop)→Prop
  | [],k=>k []
  |a ::as,k=>atK a fun v=>z4n as fun vs=>k (v ::vs)
def zwf {α:Type}:List α→Nat→(List α→Prop)→Prop
  |l,0,k=>k l
  | [],_+1,_=>False
  |_ ::xs,n+1,k=>zwf xs n k
def zqp {α:Type}:List α→Nat→(List α→Prop)→Prop
  |_,0,k=>k []
  | [],_+1,_=>False
  |x ::xs,n+1,k=>zqp xs n fun l=>k (x ::l)
def zm1 (p:SV) (o:List (Nat×Nat)) (k:SV→Prop):Prop:=
  match p with
  | .arr8 _ l=>Pre (off o<l.length) (k (.u8 (l.getD (off o) 0)))
  | .arr32 _ l=>Pre (off o<l.length) (k (.u32 (l.getD (off o) 0)))
  | .arr64 _ l=>Pre (off o<l.length) (k (.u64 (l.getD (off o) 0)))
  | .arri _ l=>Pre (off o<l.length) (k (.int (l.getD (off o) 0)))
  | .arrs _ l=>Pre (off o<l.length) (k (.str (l.getD (off o) [])))
  | .tab n es f=>zj1 o es fun i c=>Pre (i<n) (zdi (f i) c fun a=>atK a k)
  | .agg _=>False
  | .tup _=>False
  |v=>match o with| []=>k v|_=>False
def zrb (p:SV) (o:List (Nat×Nat)) (m:Nat) (k:SV→Prop):Prop:=
  match p with
  | .arr8 _ l=>Pre (off o+m≤l.length) (k (.arr8 m ((l.drop (off o)).take m)))
  | .arr32 _ l=>Pre (off o+m≤l.length) (k (.arr32 m ((l.drop (off o)).take m)))
  | .arr64 _ l=>Pre (off o+m≤l.length) (k (.arr64 m ((l.drop (off o)).take m)))
  | .arri _ l=>Pre (off o+m≤l.length) (k (.arri m ((l.drop (off o)).take m)))
  | .arrs _ l=>Pre (off o+m≤l.length) (k (.arrs m ((l.drop (off o)).take m)))
  | .tab n es f=>zj1 o es fun i c=>Pre (i<n) (zwf (f i) c fun r=>zqp r m fun as=>z4n as fun vs=>k (.agg vs))
  |_=>False
def zk3 (ti:TyI) (ps:List SV) (j b:Nat) (o:List (Nat×Nat)) (k:SV→Prop):Prop:=
  zbh ps j b fun _ r=>match ti.d with
    | .arr .. | .struct .. =>match o with
      | []=>zfd r ti.sz fun a _=>zhw a k
      |_=>match r with|p ::_=>zrb p o ti.sz k| []=>False
    |_=>match r with|p ::_=>zm1 p o k| []=>False
def zrt:List SV→(List UInt64→Prop)→Prop
  | [],k=>k []
  | .u64 x ::r,k=>zrt r fun l=>k (x ::l)
  |_,_=>False
def znq (v:SV) (k:At→Prop):Prop:=
  match v with
  | .bool b=>k (.bool b)| .int n=>k (.int n)| .u8 x=>k (.u8 x)| .u16 x=>k (.u16 x)| .u32 x=>k (.u32 x)| .u64 x=>k (.u64 x)| .str l=>k (.str l)
  |_=>False
def zi8:List SV→(List At→Prop)→Prop
  | [],k=>k []
  |v ::vs,k=>znq v fun a=>zi8 vs fun as=>k (a ::as)
def zw {α:Type} (l:List α) (i:Nat) (m:List α):List α:=l.take i++m++l.drop (i+m.length)
def zft (f:Nat→List At) (i:Nat) (r:List At):Nat→List At:=fun x=>if x=i then r else f x
def zed (p:SV) (o:List (Nat×Nat)) (v:SV) (k:SV→Prop):Prop:=
  match p with
  | .arr8 n l=>match v with
    | .u8 x=>Pre (off o<l.length) (k (.arr8 n (l.set (off o) x)))
    | .arr8 m x=>Pre (off o+m≤l.length) (k (.arr8 n (zw l (off o) x)))
    |_=>False
  | .arr32 n l=>match v with
    | .u32 x=>Pre (off o<l.length) (k (.arr32 n (l.set (off o) x)))
    | .arr32 m x=>Pre (off o+m≤l.length) (k (.arr32 n (zw l (off o) x)))
    |_=>False
  | .arr64 n l=>match v with
    | .u64 x=>Pre (off o<l.length) (k (.arr64 n (l.set (off o) x)))
    | .arr64 m x=>Pre (off o+m≤l.length) (k (.arr64 n (zw l (off o) x)))
    | .agg vs=>zrt vs fun x=>Pre (off o+x.length≤l.length) (k (.arr64 n (zw l (off o) x)))
    |_=>False
  | .arri n l=>match v with
    | .int x=>Pre (off o<l.length) (k (.arri n (l.set (off o) x)))
    | .arri m x=>Pre (off o+m≤l.length) (k (.arri n (zw l (off o) x)))
    |_=>False
  | .arrs n l=>match v with
    | .str x=>Pre (off o<l.length) (k (.arrs n (l.set (off o) x)))
    |_=>False
  | .tab n es f=>match v with
    | .agg vs=>zi8 vs fun as=>zj1 o es fun i c=>match c with
      |0=>Pre (i<n∧as.length=es) (k (.tab n es (zft f i as)))
      |_=>False
    |v=>znq v fun a=>zj1 o es fun i c=>Pre (i<n) (zii (f i) c a fun r=>k (.tab n es (zft f i r)))
  | .agg _=>False
  | .tup _=>False
  |_=>match o with
   | []=>match v.scalar with|true=>k v|false=>False
   |_=>False
def SV.plain (v:SV):Bool:=match v with| .agg _=>false| .tup _=>false|_=>true
def zhb:List SV→Bool
  | []=>true
  |v ::vs=>match v.plain with|true=>zhb vs|false=>false
def zem (ti:TyI) (ps:List SV) (j b:Nat) (o:List (Nat×Nat)) (v:SV) (k:List SV→Prop):Prop:=
  zbh ps j b fun a r=>
    match o with
    | []=>match v.many with
      |true=>zfd r ti.sz fun _ r'=>zbp v fun fs=>match Nat.beq (z8 fs) ti.sz with|true=>(match zhb fs with|true=>zc5 fs r' fun q=>zc5 a q k|false=>False)|false=>False
      |false=>match Nat.beq ti.sz 1 with
       |true=>match r with|p ::r'=>zed p [] v fun p'=>zc5 a (p' ::r') k| []=>False
       |false=>False
    |_=>match Nat.beq v.size ti.sz with
     |true=>match r with|p ::r'=>zed p o v fun p'=>zc5 a (p' ::r') k| []=>False
     |false=>False
def yn (n:Int):Prop:= -9223372036854775808≤n∧n<9223372036854775808
def zbg (op:BinOp) (a b:Int):Int:=
  IntKind.i64.wrap (match op with
    | .and=>((BitVec.ofInt 64 a&&&BitVec.ofInt 64 b).toNat:Int)
    | .or=>((BitVec.ofInt 64 a|||BitVec.ofInt 64 b).toNat:Int)
    | .xor=>((BitVec.ofInt 64 a^^^BitVec.ofInt 64 b).toNat:Int)
    |_=>((BitVec.ofInt 64 a&&& ~~~(BitVec.ofInt 64 b)).toNat:Int))
def z4m (op:BinOp) (a b:Int) (k:SV→Prop):Prop:=
  match op with
  | .add=>Pre (yn (a+b)) (k (.int (a+b)))
  | .sub=>Pre (yn (a-b)) (k (.int (a-b)))
  | .mul=>Pre (yn (a*b)) (k (.int (a*b)))
  | .quo=>Pre (b≠0∧yn (a.tdiv b)) (k (.int (a.tdiv b)))
  | .rem=>Pre (b≠0) (k (.int (a.tmod b)))
  | .and=>k (.int (zbg .and a b))
  | .or=>k (.int (zbg .or a b))
  | .xor=>k (.int (zbg .xor a b))
  | .andNot=>k (.int (zbg .andNot a b))
  | .eql=>k (.bool (decide (a=b)))
  | .neq=>k (.bool (!decide (a=b)))
  | .lss=>k (.bool (decide (a<b)))
  | .leq=>k (.bool (decide (a≤b)))
  | .gtr=>k (.bool (decide (a>b)))
  | .geq=>k (.bool (decide (a≥b)))
  |_=>False
def z00 (y:SV) (k:Nat→Prop):Prop:=
  match y with
  | .int n=>Pre (0≤n) (k n.toNat)
  | .u8 x=>k x.toNat
  | .u16 x=>k x.toNat
  | .u32 x=>k x.toNat
  | .u64 x=>k x.toNat
  |_=>False
def u8K (op:BinOp) (a b:UInt8) (k:SV→Prop):Prop:=
  match op with
  | .add=>k (.u8 (a+b))
  | .sub=>k (.u8 (a-b))
  | .mul=>k (.u8 (a*b))
  | .quo=>Pre (b.toNat≠0) (k (.u8 (a/ b)))
  | .rem=>Pre (b.toNat≠0) (k (.u8 (a%b)))
  | .and=>k (.u8 (a&&&b))
  | .or=>k (.u8 (a|||b))
  | .xor=>k (.u8 (a^^^b))
  | .andNot=>k (.u8 (a&&& ~~~b))
  | .eql=>k (.bool (decide (a=b)))
  | .neq=>k (.bool (!decide (a=b)))
  | .lss=>k (.bool (decide (a<b)))
  | .leq=>k (.bool (decide (a≤b)))
  | .gtr=>k (.bool (decide (b<a)))
  | .geq=>k (.bool (decide (b≤a)))
  |_=>False
def z36 (op:BinOp) (a b:UInt16) (k:SV→Prop):Prop:=
  match op with
  | .add=>k (.u16 (a+b))
  | .sub=>k (.u16 (a-b))
  | .mul=>k (.u16 (a*b))
  | .quo=>Pre (b.toNat≠0) (k (.u16 (a/ b)))
  | .rem=>Pre (b.toNat≠0) (k (.u16 (a%b)))
  | .and=>k (.u16 (a&&&b))
  | .or=>k (.u16 (a|||b))
  | .xor=>k (.u16 (a^^^b))
  | .andNot=>k (.u16 (a&&& ~~~b))
  | .eql=>k (.bool (decide (a=b)))
  | .neq=>k (.bool (!decide (a=b)))
  | .lss=>k (.bool (decide (a<b)))
  | .leq=>k (.bool (decide (a≤b)))
  | .gtr=>k (.bool (decide (b<a)))
  | .geq=>k (.bool (decide (b≤a)))
  |_=>False
def z54 (op:BinOp) (a b:UInt32) (k:SV→Prop):Prop:=
  match op with
  | .add=>k (.u32 (a+b))
  | .sub=>k (.u32 (a-b))
  | .mul=>k (.u32 (a*b))
  | .quo=>Pre (b.toNat≠0) (k (.u32 (a/ b)))
  | .rem=>Pre (b.toNat≠0) (k (.u32 (a%b)))
  | .and=>k (.u32 (a&&&b))
  | .or=>k (.u32 (a|||b))
  | .xor=>k (.u32 (a^^^b))
  | .andNot=>k (.u32 (a&&& ~~~b))
  | .eql=>k (.bool (decide (a=b)))
  | .neq=>k (.bool (!decide (a=b)))
  | .lss=>k (.bool (decide (a<b)))
  | .leq=>k (.bool (decide (a≤b)))
  | .gtr=>k (.bool (decide (b<a)))
  | .geq=>k (.bool (decide (b≤a)))
  |_=>False
def z4j (op:BinOp) (a b:UInt64) (k:SV→Prop):Prop:=
  match op with
  | .add=>k (.u64 (a+b))
  | .sub=>k (.u64 (a-b))
  | .mul=>k (.u64 (a*b))
  | .quo=>Pre (b.toNat≠0) (k (.u64 (a/ b)))
  | .rem=>Pre (b.toNat≠0) (k (.u64 (a%b)))
  | .and=>k (.u64 (a&&&b))
  | .or=>k (.u64 (a|||b))
  | .xor=>k (.u64 (a^^^b))
  | .andNot=>k (.u64 (a&&& ~~~b))
  | .eql=>k (.bool (decide (a=b)))
  | .neq=>k (.bool (!decide (a=b)))
  | .lss=>k (.bool (decide (a<b)))
  | .leq=>k (.bool (decide (a≤b)))
  | .gtr=>k (.bool (decide (b<a)))
  | .geq=>k (.bool (decide (b≤a)))
  |_=>False
def z37 (x y:SV) (k:SV→Prop):Prop:=
  z00 y fun n=>match x with
    | .int a=>Pre (n<64∧yn (a*2^n)) (k (.int (a*2^n)))
    | .u8 a=>Pre (n<8) (k (.u8 (a<<<UInt8.ofNat n)))
    | .u16 a=>Pre (n<16) (k (.u16 (a<<<UInt16.ofNat n)))
    | .u32 a=>Pre (n<32) (k (.u32 (a<<<UInt32.ofNat n)))
    | .u64 a=>Pre (n<64) (k (.u64 (a<<<UInt64.ofNat n)))
    |_=>False
def z5o (x y:SV) (k:SV→Prop):Prop:=
  z00 y fun n=>match x with
    | .int a=>Pre (n<64) (k (.int (a/ 2^n)))
    | .u8 a=>Pre (n<8) (k (.u8 (a>>>UInt8.ofNat n)))
    | .u16 a=>Pre (n<16) (k (.u16 (a>>>UInt16.ofNat n)))
    | .u32 a=>Pre (n<32) (k (.u32 (a>>>UInt32.ofNat n)))
    | .u64 a=>Pre (n<64) (k (.u64 (a>>>UInt64.ofNat n)))
    |_=>False
def z48 (op:BinOp) (a b:List UInt8) (k:SV→Prop):Prop:=
  match op with
  | .add=>Pre (a.length+b.length<9223372036854775808) (k (.str (a++b)))
  | .eql=>k (.bool (decide (a=b)))
  | .neq=>k (.bool (!decide (a=b)))
  |_=>False
def zyf (op:BinOp) (x y:SV) (k:SV→Prop):Prop:=
  match op with
  | .shl=>z37 x y k
  | .shr=>z5o x y k
  |op=>match x,y with
   | .int a,.int b=>z4m op a b k
   | .u8 a,.u8 b=>u8K op a b k
   | .u16 a,.u16 b=>z36 op a b k
   | .u32 a,.u32 b=>z54 op a b k
   | .u64 a,.u64 b=>z4j op a b k
   | .str a,.str b=>z48 op a b k
   |_,_=>False
def unK (op:UnOp) (x:SV) (k:SV→Prop):Prop:=
  match op,x with
  | .not,.bool b=>k (.bool (!b))
  | .neg,.int a=>Pre (yn (0-a)) (k (.int (0-a)))
  | .neg,.u8 a=>k (.u8 (0-a))
  | .neg,.u16 a=>k (.u16 (0-a))
  | .neg,.u32 a=>k (.u32 (0-a))
  | .neg,.u64 a=>k (.u64 (0-a))
  | .xor,.u8 a=>k (.u8 (~~~a))
  | .xor,.u16 a=>k (.u16 (~~~a))
  | .xor,.u32 a=>k (.u32 (~~~a))
  | .xor,.u64 a=>k (.u64 (~~~a))
  |_,_=>False
def zfc (d:IntKind) (x:SV) (k:SV→Prop):Prop:=
  match d,x with
  | .i64,.int n=>Pre (yn n) (k (.int n))
  | .i64,.u8 a=>k (.int a.toNat)
  | .i64,.u16 a=>k (.int a.toNat)
  | .i64,.u32 a=>k (.int a.toNat)
  | .i64,.u64 a=>Pre (a.toNat<9223372036854775808) (k (.int a.toNat))
  | .u8,.int n=>k (.u8 (UInt8.ofInt n))
  | .u8,.u8 a=>k (.u8 a)
  | .u8,.u16 a=>k (.u8 a.toUInt8)
  | .u8,.u32 a=>k (.u8 a.toUInt8)
  | .u8,.u64 a=>k (.u8 a.toUInt8)
  | .u16,.int n=>k (.u16 (UInt16.ofInt n))
  | .u16,.u8 a=>k (.u16 a.toUInt16)
  | .u16,.u16 a=>k (.u16 a)
  | .u16,.u32 a=>k (.u16 a.toUInt16)
  | .u16,.u64 a=>k (.u16 a.toUInt16)
  | .u32,.int n=>k (.u32 (UInt32.ofInt n))
  | .u32,.u8 a=>k (.u32 a.toUInt32)
  | .u32,.u16 a=>k (.u32 a.toUInt32)
  | .u32,.u32 a=>k (.u32 a)
  | .u32,.u64 a=>k (.u32 a.toUInt32)
  | .u64,.int n=>k (.u64 (UInt64.ofInt n))
  | .u64,.u8 a=>k (.u64 a.toUInt64)
  | .u64,.u16 a=>k (.u64 a.toUInt64)
  | .u64,.u32 a=>k (.u64 a.toUInt64)
  | .u64,.u64 a=>k (.u64 a)
  |_,_=>False
end Go.Sym
