/-
  Contracts of functions of the program, each said of symbolic values, and plain laws; no condition beyond each statement's own.
-/
import GoSem.Dispatch
import GoSem.Core.Code
set_option linter.unusedSimpArgs false
set_option linter.unusedVariables false
namespace Go.Sym
inductive At where
  |bool (b:Bool)
  |int (n:Int)
  |u8 (x:UInt8)
  |u16 (x:UInt16)
  |u32 (x:UInt32)
  |u64 (x:UInt64)
  |str (l:List UInt8)
  deriving Inhabited
inductive SV where
  |bool (b:Bool)
  |int (n:Int)
  |u8 (x:UInt8)
  |u16 (x:UInt16)
  |u32 (x:UInt32)
  |u64 (x:UInt64)
  |str (l:List UInt8)
  |ptr (k j b:Nat) (o:List (Nat×Nat))
  |nilptr
  |sl (k j b:Nat) (o:List (Nat×Nat)) (n c:Nat)
  |nilsl
  |func (f:FuncId) (caps:List SV)
  |nilfn
  |nilif
  |iface (t:TypeId) (v:SV)
  |arr8 (n:Nat) (l:List UInt8)
  |arr32 (n:Nat) (l:List UInt32)
  |arr64 (n:Nat) (l:List UInt64)
  |arri (n:Nat) (l:List Int)
  |arrs (n:Nat) (l:List (List UInt8))
  |tab (n es:Nat) (f:Nat→List At)
  |agg (ps:List SV)
  |tup (vs:List SV)
  |xptr (a:Addr)
  |xsl (a:Option Addr) (n c:Nat)
  deriving Inhabited
inductive Blk where
  |mk (el:TypeId) (ps:List SV)
  |dead
  deriving Inhabited
structure St where
  tm:List (Nat×SV)
  hp:List Blk
def zib (x:Nat×Nat):Nat:=match x with|(i,1)=>i|(i,e)=>i*e
def off:List (Nat×Nat)→Nat
  | []=>0
  | [x]=>zib x
  |x ::y ::r=>zib x+off (y ::r)
theorem zb3 (x:Nat×Nat):zib x=x.1*x.2:=by
  obtain ⟨i,e⟩:=x
  unfold zib
  split
  ·rename_i h;cases h;simp
  ·rename_i h;cases h;rfl
theorem zsf (x:Nat×Nat) (r:List (Nat×Nat)):off (x ::r)=x.1*x.2+off r:=by
  cases r with
  |nil=>simp [off,zb3]
  |cons y r=>simp [off,zb3]
def At.val:At→Value
  | .bool b=> .bool b
  | .int n=> .int .i64 n
  | .u8 x=> .int .u8 (x.toNat:Int)
  | .u16 x=> .int .u16 (x.toNat:Int)
  | .u32 x=> .int .u32 (x.toNat:Int)
  | .u64 x=> .int .u64 (x.toNat:Int)
  | .str l=> .string ⟨l.toArray⟩
def At.sv:At→SV
  | .bool b=> .bool b
  | .int n=> .int n
  | .u8 x=> .u8 x
  | .u16 x=> .u16 x
  | .u32 x=> .u32 x
  | .u64 x=> .u64 x
  | .str l=> .str l
def c8 (l:List UInt8):List Value:=l.map fun x=> .int .u8 (x.toNat:Int)
def c32 (l:List UInt32):List Value:=l.map fun x=> .int .u32 (x.toNat:Int)
def c64 (l:List UInt64):List Value:=l.map fun x=> .int .u64 (x.toNat:Int)
def ci (l:List Int):List Value:=l.map fun x=> .int .i64 x
def cs (l:List (List UInt8)):List Value:=l.map fun x=> .string ⟨x.toArray⟩
def x5 (n:Nat) (f:Nat→List At):List Value:=(List.range n).flatMap fun i=>(f i).map At.val
mutual
def SV.cells (ρ:Nat→Nat):SV→List Value
  | .bool b=> [.bool b]
  | .int n=> [.int .i64 n]
  | .u8 x=> [.int .u8 (x.toNat:Int)]
  | .u16 x=> [.int .u16 (x.toNat:Int)]
  | .u32 x=> [.int .u32 (x.toNat:Int)]
  | .u64 x=> [.int .u64 (x.toNat:Int)]
  | .str l=> [.string ⟨l.toArray⟩]
  | .ptr k _ b o=> [.pointer (some ⟨ρ k,b+off o,none⟩)]
  | .nilptr=> [.pointer none]
  | .sl k _ b o n c=> [.slice (some ⟨ρ k,b+off o,none⟩) n c]
  | .nilsl=> [.slice none 0 0]
  | .func f caps=> [.func (.func f) #[] (y3 ρ caps).toArray]
  | .nilfn=> [.nilFunc]
  | .nilif=> [.nilIface]
  | .iface t v=> [.iface t (v.den ρ)]
  | .arr8 _ l=>c8 l
  | .arr32 _ l=>c32 l
  | .arr64 _ l=>c64 l
  | .arri _ l=>ci l
  | .arrs _ l=>cs l
  | .tab n _ f=>x5 n f
  | .agg ps=>zh ρ ps
  | .tup vs=> [.tuple (y3 ρ vs).toArray]
  | .xptr a=> [.pointer (some a)]
  | .xsl a n c=> [.slice a n c]
def zh (ρ:Nat→Nat):List SV→List Value
  | []=> []
  |v ::vs=>v.cells ρ++zh ρ vs
def SV.den (ρ:Nat→Nat):SV→Value
  | .bool b=> .bool b
  | .int n=> .int .i64 n
  | .u8 x=> .int .u8 (x.toNat:Int)
  | .u16 x=> .int .u16 (x.toNat:Int)
  | .u32 x=> .int .u32 (x.toNat:Int)
  | .u64 x=> .int .u64 (x.toNat:Int)
  | .str l=> .string ⟨l.toArray⟩
  | .ptr k _ b o=> .pointer (some ⟨ρ k,b+off o,none⟩)
  | .nilptr=> .pointer none
  | .sl k _ b o n c=> .slice (some ⟨ρ k,b+off o,none⟩) n c
  | .nilsl=> .slice none 0 0
  | .func f caps=> .func (.func f) #[] (y3 ρ caps).toArray
  | .nilfn=> .nilFunc
  | .nilif=> .nilIface
  | .iface t v=> .iface t (v.den ρ)
  | .arr8 _ l=> .agg (c8 l).toArray
  | .arr32 _ l=> .agg (c32 l).toArray
  | .arr64 _ l=> .agg (c64 l).toArray
  | .arri _ l=> .agg (ci l).toArray
  | .arrs _ l=> .agg (cs l).toArray
  | .tab n _ f=> .agg (x5 n f).toArray
  | .agg ps=> .agg (zh ρ ps).toArray
  | .tup vs=> .tuple (y3 ρ vs).toArray
  | .xptr a=> .pointer (some a)
  | .xsl a n c=> .slice a n c
def y3 (ρ:Nat→Nat):List SV→List Value
  | []=> []
  |v ::vs=>v.den ρ ::y3 ρ vs
end
mutual
def SV.size:SV→Nat
  | .arr8 n _=>n
  | .arr32 n _=>n
  | .arr64 n _=>n
  | .arri n _=>n
  | .arrs n _=>n
  | .tab n es _=>n*es
  | .agg ps=>z6 ps
  |_=>1
def z6:List SV→Nat
  | []=>0
  |v ::vs=>v.size+z6 vs
end
mutual
def SV.ok (p:Nat→Prop):SV→Prop
  | .ptr k _ _ _=>p k
  | .sl k _ _ _ _ _=>p k
  | .xsl a n _=>a.isSome=true∨n=0
  | .arr8 n l=>l.length=n
  | .arr32 n l=>l.length=n
  | .arr64 n l=>l.length=n
  | .arri n l=>l.length=n
  | .arrs n l=>l.length=n
  | .tab n es f=> ∀i,i<n→(f i).length=es
  | .agg ps=>okL p ps
  | .tup vs=>okL p vs
  | .func _ caps=>okL p caps
  | .iface _ v=>v.ok p
  |_=>True
def okL (p:Nat→Prop):List SV→Prop
  | []=>True
  |v ::vs=>v.ok p∧okL p vs
end
mutual
def SV.all (p:Nat→Bool):SV→Bool
  | .ptr k _ _ _=>p k
  | .sl k _ _ _ _ _=>p k
  | .agg ps=>zhi p ps
  | .tup vs=>zhi p vs
  | .func _ caps=>zhi p caps
  | .iface _ v=>v.all p
  |_=>true
def zhi (p:Nat→Bool):List SV→Bool
  | []=>true
  |v ::vs=>match v.all p with|true=>zhi p vs|false=>false
end
mutual
def SV.ks:SV→List Nat
  | .ptr k _ _ _=> [k]
  | .sl k _ _ _ _ _=> [k]
  | .agg ps=>ksL ps
  | .tup vs=>ksL vs
  | .func _ caps=>ksL caps
  | .iface _ v=>v.ks
  |_=> []
def ksL:List SV→List Nat
  | []=> []
  |v ::vs=>v.ks++ksL vs
end
mutual
def SV.ren (g:Nat→Nat):SV→SV
  | .ptr k j b o=> .ptr (g k) j b o
  | .sl k j b o n c=> .sl (g k) j b o n c
  | .func f caps=> .func f (zce g caps)
  | .iface t v=> .iface t (v.ren g)
  | .agg ps=> .agg (zce g ps)
  | .tup vs=> .tup (zce g vs)
  | .bool b=> .bool b
  | .int n=> .int n
  | .u8 x=> .u8 x
  | .u16 x=> .u16 x
  | .u32 x=> .u32 x
  | .u64 x=> .u64 x
  | .str l=> .str l
  | .nilptr=> .nilptr
  | .nilsl=> .nilsl
  | .nilfn=> .nilfn
  | .nilif=> .nilif
  | .xptr a=> .xptr a
  | .xsl a n c=> .xsl a n c
  | .arr8 n l=> .arr8 n l
  | .arr32 n l=> .arr32 n l
  | .arr64 n l=> .arr64 n l
  | .arri n l=> .arri n l
  | .arrs n l=> .arrs n l
  | .tab n es f=> .tab n es f
def zce (g:Nat→Nat):List SV→List SV
  | []=> []
  |v ::vs=>v.ren g ::zce g vs
end
def Blk.ren (g:Nat→Nat):Blk→Blk
  | .mk el ps=> .mk el (zce g ps)
  | .dead=> .dead
theorem xp (n es:Nat) (f:Nat→List At) (h: ∀i,i<n→(f i).length=es):(x5 n f).length=n*es:=by
  unfold x5
  induction n with
  |zero=>simp
  |succ n ih=>
   rw [List.range_succ,List.flatMap_append,List.length_append,ih (fun i hi=>h i (by omega))]
   simp [h n (by omega),Nat.add_mul]
mutual
theorem SV.cells_length {p:Nat→Prop} (ρ:Nat→Nat): ∀v:SV,v.ok p→(v.cells ρ).length=v.size
  | .bool _,_=>rfl
  | .int _,_=>rfl
  | .u8 _,_=>rfl
  | .u16 _,_=>rfl
  | .u32 _,_=>rfl
  | .u64 _,_=>rfl
  | .str _,_=>rfl
  | .ptr ..,_=>rfl
  | .nilptr,_=>rfl
  | .sl ..,_=>rfl
  | .nilsl,_=>rfl
  | .func ..,_=>rfl
  | .nilfn,_=>rfl
  | .nilif,_=>rfl
  | .xptr _,_=>rfl
  | .xsl ..,_=>rfl
  | .iface ..,_=>rfl
  | .arr8 n l,h=>by simpa [SV.cells,SV.size,SV.ok,c8] using h
  | .arr32 n l,h=>by simpa [SV.cells,SV.size,SV.ok,c32] using h
  | .arr64 n l,h=>by simpa [SV.cells,SV.size,SV.ok,c64] using h
  | .arri n l,h=>by simpa [SV.cells,SV.size,SV.ok,ci] using h
  | .arrs n l,h=>by simpa [SV.cells,SV.size,SV.ok,cs] using h
  | .tab n es f,h=>by simpa [SV.cells,SV.size] using xp n es f (by simpa [SV.ok] using h)
  | .agg ps,h=>by simpa [SV.cells,SV.size] using xb ρ ps (by simpa [SV.ok] using h)
  | .tup _,_=>rfl
theorem xb {p:Nat→Prop} (ρ:Nat→Nat): ∀vs:List SV,okL p vs→(zh ρ vs).length=z6 vs
  | [],_=>rfl
  |v ::vs,h=>by
   simp only [okL] at h
   simp [zh,z6,SV.cells_length ρ v h.1,xb ρ vs h.2]
end
mutual
theorem SV.cells_ren (ρ g:Nat→Nat): ∀v:SV,(v.ren g).cells ρ=v.cells (fun k=>ρ (g k))
  | .bool _=>rfl
  | .int _=>rfl
  | .u8 _=>rfl
  | .u16 _=>rfl
  | .u32 _=>rfl
  | .u64 _=>rfl
  | .str _=>rfl
  | .ptr .. =>rfl
  | .nilptr=>rfl
  | .sl .. =>rfl
  | .nilsl=>rfl
  | .func f caps=>by simp [SV.ren,SV.cells,zd1 ρ g caps]
  | .nilfn=>rfl
  | .nilif=>rfl
  | .xptr _=>rfl
  | .xsl .. =>rfl
  | .iface t v=>by simp [SV.ren,SV.cells,SV.den_ren ρ g v]
  | .arr8 .. =>rfl
  | .arr32 .. =>rfl
  | .arr64 .. =>rfl
  | .arri .. =>rfl
  | .arrs .. =>rfl
  | .tab .. =>rfl
  | .agg ps=>by simp [SV.ren,SV.cells,zbd ρ g ps]
  | .tup vs=>by simp [SV.ren,SV.cells,zd1 ρ g vs]
theorem zbd (ρ g:Nat→Nat): ∀vs:List SV,zh ρ (zce g vs)=zh (fun k=>ρ (g k)) vs
  | []=>rfl
  |v ::vs=>by simp [zce,zh,SV.cells_ren ρ g v,zbd ρ g vs]
theorem SV.den_ren (ρ g:Nat→Nat): ∀v:SV,(v.ren g).den ρ=v.den (fun k=>ρ (g k))
  | .bool _=>rfl
  | .int _=>rfl
  | .u8 _=>rfl
  | .u16 _=>rfl
  | .u32 _=>rfl
  | .u64 _=>rfl
  | .str _=>rfl
  | .ptr .. =>rfl
  | .nilptr=>rfl
  | .sl .. =>rfl
  | .nilsl=>rfl
  | .func f caps=>by simp [SV.ren,SV.den,zd1 ρ g caps]
  | .nilfn=>rfl
  | .nilif=>rfl
  | .xptr _=>rfl
  | .xsl .. =>rfl
  | .iface t v=>by simp [SV.ren,SV.den,SV.den_ren ρ g v]
  | .arr8 .. =>rfl
  | .arr32 .. =>rfl
  | .arr64 .. =>rfl
  | .arri .. =>rfl
  | .arrs .. =>rfl
  | .tab .. =>rfl
  | .agg ps=>by simp [SV.ren,SV.den,zbd ρ g ps]
  | .tup vs=>by simp [SV.ren,SV.den,zd1 ρ g vs]
theorem zd1 (ρ g:Nat→Nat): ∀vs:List SV,y3 ρ (zce g vs)=y3 (fun k=>ρ (g k)) vs
  | []=>rfl
  |v ::vs=>by simp [zce,y3,SV.den_ren ρ g v,zd1 ρ g vs]
end
mutual
theorem SV.ok_ren {p q:Nat→Prop} (g:Nat→Nat) (hg: ∀k,p k→q (g k)): ∀v:SV,v.ok p→(v.ren g).ok q
  | .bool _,_=>trivial
  | .int _,_=>trivial
  | .u8 _,_=>trivial
  | .u16 _,_=>trivial
  | .u32 _,_=>trivial
  | .u64 _,_=>trivial
  | .str _,_=>trivial
  | .nilptr,_=>trivial
  | .nilsl,_=>trivial
  | .nilfn,_=>trivial
  | .nilif,_=>trivial
  | .xptr _,_=>trivial
  | .xsl ..,h=>h
  | .ptr k _ _ _,h=>hg k h
  | .sl k _ _ _ _ _,h=>hg k h
  | .func _ caps,h=>by simp only [SV.ren,SV.ok] at h ⊢;exact zdg g hg caps h
  | .iface _ v,h=>by simp only [SV.ren,SV.ok] at h ⊢;exact SV.ok_ren g hg v h
  | .arr8 _ _,h=>h
  | .arr32 _ _,h=>h
  | .arr64 _ _,h=>h
  | .arri _ _,h=>h
  | .arrs _ _,h=>h
  | .tab _ _ _,h=>h
  | .agg ps,h=>by simp only [SV.ren,SV.ok] at h ⊢;exact zdg g hg ps h
  | .tup vs,h=>by simp only [SV.ren,SV.ok] at h ⊢;exact zdg g hg vs h
theorem zdg {p q:Nat→Prop} (g:Nat→Nat) (hg: ∀k,p k→q (g k)): ∀vs:List SV,okL p vs→okL q (zce g vs)
  | [],_=>trivial
  |v ::vs,h=>⟨SV.ok_ren g hg v h.1,zdg g hg vs h.2⟩
end
mutual
theorem SV.ok_mono {p q:Nat→Prop} (hg: ∀k,p k→q k): ∀v:SV,v.ok p→v.ok q
  | .bool _,_=>trivial
  | .int _,_=>trivial
  | .u8 _,_=>trivial
  | .u16 _,_=>trivial
  | .u32 _,_=>trivial
  | .u64 _,_=>trivial
  | .str _,_=>trivial
  | .nilptr,_=>trivial
  | .nilsl,_=>trivial
  | .nilfn,_=>trivial
  | .nilif,_=>trivial
  | .xptr _,_=>trivial
  | .xsl ..,h=>h
  | .ptr k _ _ _,h=>hg k h
  | .sl k _ _ _ _ _,h=>hg k h
  | .func _ caps,h=>by simp only [SV.ok] at h ⊢;exact ym hg caps h
  | .iface _ v,h=>by simp only [SV.ok] at h ⊢;exact SV.ok_mono hg v h
  | .arr8 _ _,h=>h
  | .arr32 _ _,h=>h
  | .arr64 _ _,h=>h
  | .arri _ _,h=>h
  | .arrs _ _,h=>h
  | .tab _ _ _,h=>h
  | .agg ps,h=>by simp only [SV.ok] at h ⊢;exact ym hg ps h
  | .tup vs,h=>by simp only [SV.ok] at h ⊢;exact ym hg vs h
theorem ym {p q:Nat→Prop} (hg: ∀k,p k→q k): ∀vs:List SV,okL p vs→okL q vs
  | [],_=>trivial
  |v ::vs,h=>⟨SV.ok_mono hg v h.1,ym hg vs h.2⟩
end
mutual
theorem SV.ok_all {p:Nat→Prop} {b:Nat→Bool}: ∀v:SV,v.ok p→v.all b=true→v.ok (fun k=>b k=true)
  | .bool _,_,_=>trivial
  | .int _,_,_=>trivial
  | .u8 _,_,_=>trivial
  | .u16 _,_,_=>trivial
  | .u32 _,_,_=>trivial
  | .u64 _,_,_=>trivial
  | .str _,_,_=>trivial
  | .nilptr,_,_=>trivial
  | .nilsl,_,_=>trivial
  | .nilfn,_,_=>trivial
  | .nilif,_,_=>trivial
  | .xptr _,_,_=>trivial
  | .xsl ..,h,_=>h
  | .ptr k _ _ _,_,h=>h
  | .sl k _ _ _ _ _,_,h=>h
  | .func _ caps,h,h'=>by simp only [SV.ok,SV.all] at h h' ⊢;exact zdb caps h h'
  | .iface _ v,h,h'=>by simp only [SV.ok,SV.all] at h h' ⊢;exact SV.ok_all v h h'
  | .arr8 _ _,h,_=>h
  | .arr32 _ _,h,_=>h
  | .arr64 _ _,h,_=>h
  | .arri _ _,h,_=>h
  | .arrs _ _,h,_=>h
  | .tab _ _ _,h,_=>h
  | .agg ps,h,h'=>by simp only [SV.ok,SV.all] at h h' ⊢;exact zdb ps h h'
  | .tup vs,h,h'=>by simp only [SV.ok,SV.all] at h h' ⊢;exact zdb vs h h'
theorem zdb {p:Nat→Prop} {b:Nat→Bool}: ∀vs:List SV,okL p vs→zhi b vs=true→okL (fun k=>b k=true) vs
  | [],_,_=>trivial
  |v ::vs,h,h'=>by
   have hv:v.all b=true∧zhi b vs=true:=by
     cases hb:v.all b<;>simp [zhi,hb] at h' ⊢
     exact h'
   exact ⟨SV.ok_all v h.1 hv.1,zdb vs h.2 hv.2⟩
end
mutual
theorem SV.cells_congr {p:Nat→Prop} {ρ ρ':Nat→Nat} (hp: ∀k,p k→ρ k=ρ' k): ∀v:SV,v.ok p→v.cells ρ=v.cells ρ'
  | .bool _,_=>rfl
  | .int _,_=>rfl
  | .u8 _,_=>rfl
  | .u16 _,_=>rfl
  | .u32 _,_=>rfl
  | .u64 _,_=>rfl
  | .str _,_=>rfl
  | .nilptr,_=>rfl
  | .nilsl,_=>rfl
  | .nilfn,_=>rfl
  | .nilif,_=>rfl
  | .xptr _,_=>rfl
  | .xsl ..,_=>rfl
  | .ptr k _ _ _,h=>by simp only [SV.cells,hp k h]
  | .sl k _ _ _ _ _,h=>by simp only [SV.cells,hp k h]
  | .func _ caps,h=>by simp only [SV.ok] at h;simp only [SV.cells,zbs hp caps h]
  | .iface _ v,h=>by simp only [SV.ok] at h;simp only [SV.cells,SV.den_congr hp v h]
  | .arr8 _ _,_=>rfl
  | .arr32 _ _,_=>rfl
  | .arr64 _ _,_=>rfl
  | .arri _ _,_=>rfl
  | .arrs _ _,_=>rfl
  | .tab _ _ _,_=>rfl
  | .agg ps,h=>by simp only [SV.ok] at h;simp only [SV.cells,xf hp ps h]
  | .tup vs,h=>by simp only [SV.ok] at h;simp only [SV.cells,zbs hp vs h]
theorem xf {p:Nat→Prop} {ρ ρ':Nat→Nat} (hp: ∀k,p k→ρ k=ρ' k): ∀vs:List SV,okL p vs→zh ρ vs=zh ρ' vs
  | [],_=>rfl
  |v ::vs,h=>by simp only [zh,SV.cells_congr hp v h.1,xf hp vs h.2]
theorem SV.den_congr {p:Nat→Prop} {ρ ρ':Nat→Nat} (hp: ∀k,p k→ρ k=ρ' k): ∀v:SV,v.ok p→v.den ρ=v.den ρ'
  | .bool _,_=>rfl
  | .int _,_=>rfl
  | .u8 _,_=>rfl
  | .u16 _,_=>rfl
  | .u32 _,_=>rfl
  | .u64 _,_=>rfl
  | .str _,_=>rfl
  | .nilptr,_=>rfl
  | .nilsl,_=>rfl
  | .nilfn,_=>rfl
  | .nilif,_=>rfl
  | .xptr _,_=>rfl
  | .xsl ..,_=>rfl
  | .ptr k _ _ _,h=>by simp only [SV.den,hp k h]
  | .sl k _ _ _ _ _,h=>by simp only [SV.den,hp k h]
  | .func _ caps,h=>by simp only [SV.ok] at h;simp only [SV.den,zbs hp caps h]
  | .iface _ v,h=>by simp only [SV.ok] at h;simp only [SV.den,SV.den_congr hp v h]
  | .arr8 _ _,_=>rfl
  | .arr32 _ _,_=>rfl
  | .arr64 _ _,_=>rfl
  | .arri _ _,_=>rfl
  | .arrs _ _,_=>rfl
  | .tab _ _ _,_=>rfl
  | .agg ps,h=>by simp only [SV.ok] at h;simp only [SV.den,xf hp ps h]
  | .tup vs,h=>by simp only [SV.ok] at h;simp only [SV.den,zbs hp vs h]
theorem zbs {p:Nat→Prop} {ρ ρ':Nat→Nat} (hp: ∀k,p k→ρ k=ρ' k): ∀vs:List SV,okL p vs→y3 ρ vs=y3 ρ' vs
  | [],_=>rfl
  |v ::vs,h=>by simp only [y3,SV.den_congr hp v h.1,zbs hp vs h.2]
end
theorem y8 {p:Nat→Prop} {a b:List SV}:okL p (a++b)↔okL p a∧okL p b:=by
  induction a with
  |nil=>simp [okL]
  |cons x r ih=>simp [okL,ih,and_assoc]
theorem yb (ρ:Nat→Nat) (a b:List SV):zh ρ (a++b)=zh ρ a++zh ρ b:=by
  induction a with
  |nil=>simp [zh]
  |cons x r ih=>simp [zh,ih]
theorem zj8 (ρ:Nat→Nat) (vs:List SV):(y3 ρ vs).length=vs.length:=by
  induction vs with
  |nil=>rfl
  |cons v vs ih=>simp [y3,ih]
def SV.scalar:SV→Bool
  | .arr8 .. | .arr32 .. | .arr64 .. | .arri .. | .arrs .. | .tab .. | .agg _| .tup _=>false
  |_=>true
def SV.many:SV→Bool
  | .arr8 .. | .arr32 .. | .arr64 .. | .arri .. | .arrs .. | .tab .. | .agg _=>true
  |_=>false
theorem zar {ρ:Nat→Nat} {v:SV} (h:v.scalar=true):v.cells ρ= [v.den ρ]:=by
  cases v<;>first|rfl|(simp [SV.scalar] at h)
theorem zcg {ρ:Nat→Nat} {v:SV} (h:v.many=true):v.den ρ= .agg (v.cells ρ).toArray:=by
  cases v<;>first|rfl|(simp [SV.many] at h)|simp [SV.den,SV.cells]
theorem zcu (ρ:Nat→Nat) (v:SV):(v.den ρ).cells=(v.cells ρ).toArray:=by
  cases v<;>simp [SV.den,SV.cells,Value.cells]
theorem At.val_eq (ρ:Nat→Nat) (a:At):a.val=a.sv.den ρ:=by cases a<;>rfl
theorem At.sv_ok {p:Nat→Prop} (a:At):a.sv.ok p:=by cases a<;>simp [At.sv,SV.ok]
theorem At.sv_scalar (a:At):a.sv.scalar=true:=by cases a<;>rfl
end Go.Sym

namespace Go.Sym
inductive Ty where
  |int (k:IntKind)|bool|str|ptr|sl (e:TypeId)|arr (n:Nat) (e:TypeId)|struct (fs:List (Nat×TypeId))|func|iface|other
  deriving Inhabited
structure TyI where
  d:Ty
  sz:Nat
  bytes:Nat
  zero:SV
  eqOk:Bool:=false
abbrev Spec:=List SV→List Blk→(SV→List Blk→Prop)→Prop
structure Ctx where
  nt:Nat
  ty:List (Nat×TyI)
  fn:List (Nat×Spec)
  E:World→Prop:=fun _=>True
  ext:Addr→TypeId→SV→Prop:=fun _ _ _=>False
def Pre (p q:Prop):Prop:=p∧q
def yg (t:Bool) (a b:Prop):Prop:=(t=true→a)∧(t=false→b)
def x9 {α:Type} (f:α→Prop):Prop:= ∀x,f x
def zlh (R k:SV→Prop):Prop:= ∃v,R v∧k v
attribute [irreducible] Pre yg x9 zlh
theorem zzo {R k:SV→Prop} (v:SV) (h:R v) (h':k v):zlh R k:=by unfold zlh;exact ⟨v,h,h'⟩
theorem z5e {R k:SV→Prop} (h:zlh R k): ∃v,R v∧k v:=by unfold zlh at h;exact h
theorem zv {p q:Prop} (h:p) (h':q):Pre p q:=by unfold Pre;exact ⟨h,h'⟩
theorem zi {p q:Prop} (h:Pre p q):p∧q:=by unfold Pre at h;exact h
theorem zfr {t:Bool} {a b:Prop} (h:t=true→a) (h':t=false→b):yg t a b:=by unfold yg;exact ⟨h,h'⟩
theorem yc {t:Bool} {a b:Prop} (h:yg t a b):(t=true→a)∧(t=false→b):=by unfold yg at h;exact h
theorem zr {t:Bool} {a b:Prop} (e:t=true) (h:a):yg t a b:=zfr (fun _=>h) (fun h=>by rw [e] at h;cases h)
theorem zq {t:Bool} {a b:Prop} (e:t=false) (h:b):yg t a b:=zfr (fun h=>by rw [e] at h;cases h) (fun _=>h)
theorem yf {α:Type} {f:α→Prop} (h: ∀x,f x):x9 f:=by unfold x9;exact h
theorem xj {α:Type} {f:α→Prop} (h:x9 f): ∀x,f x:=by unfold x9 at h;exact h
def zex {α:Type}:List α→α→(List α→Prop)→Prop
  | [],x,k=>k [x]
  |y ::ys,x,k=>zex ys x fun l=>k (y ::l)
def zc8 {α:Type}:List α→List α→(List α→Prop)→Prop
  | [],b,k=>k b
  |y ::ys,b,k=>zc8 ys b fun l=>k (y ::l)
def zij {α:Type}:List α→Nat→α→(List α→Prop)→Prop
  | [],_,_,_=>False
  |_ ::xs,0,y,k=>k (y ::xs)
  |x ::xs,n+1,y,k=>zij xs n y fun l=>k (x ::l)
def zdt {α:Type}:List α→Nat→(α→Prop)→Prop
  | [],_,_=>False
  |x ::_,0,k=>k x
  |_ ::xs,n+1,k=>zdt xs n k
def ye {α:Type}:List (Nat×α)→Nat→(α→Prop)→Prop
  | [],_,_=>False
  |(i,v) ::r,n,k=>match Nat.beq i n with|true=>k v|false=>ye r n k
def zio {α:Type} (l:List α) (k:Nat→Prop):Prop:=
  match l with
  | []=>k 0
  | [_]=>k 1
  | [_,_]=>k 2
  | [_,_,_]=>k 3
  | [_,_,_,_]=>k 4
  | [_,_,_,_,_]=>k 5
  | [_,_,_,_,_,_]=>k 6
  | [_,_,_,_,_,_,_]=>k 7
  | [_,_,_,_,_,_,_,_]=>k 8
  | [_,_,_,_,_,_,_,_,_]=>k 9
  | [_,_,_,_,_,_,_,_,_,_]=>k 10
  | [_,_,_,_,_,_,_,_,_,_,_]=>k 11
  | [_,_,_,_,_,_,_,_,_,_,_,_]=>k 12
  | [_,_,_,_,_,_,_,_,_,_,_,_,_]=>k 13
  | [_,_,_,_,_,_,_,_,_,_,_,_,_,_]=>k 14
  | [_,_,_,_,_,_,_,_,_,_,_,_,_,_,_]=>k 15
  | [_,_,_,_,_,_,_,_,_,_,_,_,_,_,_,_]=>k 16
  | [_,_,_,_,_,_,_,_,_,_,_,_,_,_,_,_,_]=>k 17
  | [_,_,_,_,_,_,_,_,_,_,_,_,_,_,_,_,_,_]=>k 18
  | [_,_,_,_,_,_,_,_,_,_,_,_,_,_,_,_,_,_,_]=>k 19
  | [_,_,_,_,_,_,_,_,_,_,_,_,_,_,_,_,_,_,_,_]=>k 20
  | [_,_,_,_,_,_,_,_,_,_,_,_,_,_,_,_,_,_,_,_,_]=>k 21
  | [_,_,_,_,_,_,_,_,_,_,_,_,_,_,_,_,_,_,_,_,_,_]=>k 22
  | [_,_,_,_,_,_,_,_,_,_,_,_,_,_,_,_,_,_,_,_,_,_,_]=>k 23
  | [_,_,_,_,_,_,_,_,_,_,_,_,_,_,_,_,_,_,_,_,_,_,_,_]=>k 24
  | [_,_,_,_,_,_,_,_,_,_,_,_,_,_,_,_,_,_,_,_,_,_,_,_,_]=>k 25
  | [_,_,_,_,_,_,_,_,_,_,_,_,_,_,_,_,_,_,_,_,_,_,_,_,_,_]=>k 26
  | [_,_,_,_,_,_,_,_,_,_,_,_,_,_,_,_,_,_,_,_,_,_,_,_,_,_,_]=>k 27
  | [_,_,_,_,_,_,_,_,_,_,_,_,_,_,_,_,_,_,_,_,_,_,_,_,_,_,_,_]=>k 28
  | [_,_,_,_,_,_,_,_,_,_,_,_,_,_,_,_,_,_,_,_,_,_,_,_,_,_,_,_,_]=>k 29
  | [_,_,_,_,_,_,_,_,_,_,_,_,_,_,_,_,_,_,_,_,_,_,_,_,_,_,_,_,_,_]=>k 30
  | [_,_,_,_,_,_,_,_,_,_,_,_,_,_,_,_,_,_,_,_,_,_,_,_,_,_,_,_,_,_,_]=>k 31
  | [_,_,_,_,_,_,_,_,_,_,_,_,_,_,_,_,_,_,_,_,_,_,_,_,_,_,_,_,_,_,_,_]=>k 32
  |l=>k l.length
def zm8 (v:Value) (k:SV→Prop):Prop:=
  match v with
  | .bool b=>k (.bool b)
  | .int .i64 n=>k (.int n)
  | .int .u8 (.ofNat n)=>match Nat.blt n 256 with|true=>k (.u8 (UInt8.ofNat n))|false=>False
  | .int .u16 (.ofNat n)=>match Nat.blt n 65536 with|true=>k (.u16 (UInt16.ofNat n))|false=>False
  | .int .u32 (.ofNat n)=>match Nat.blt n 4294967296 with|true=>k (.u32 (UInt32.ofNat n))|false=>False
  | .int .u64 (.ofNat n)=>match Nat.blt n 18446744073709551616 with|true=>k (.u64 (UInt64.ofNat n))|false=>False
  | .string ⟨⟨l⟩⟩=>k (.str l)
  | .pointer none=>k .nilptr
  | .slice none 0 0=>k .nilsl
  | .nilFunc=>k .nilfn
  | .nilIface=>k .nilif
  |_=>False
def evK (tm:List (Nat×SV)) (x:Operand) (k:SV→Prop):Prop:=
  match x with
  | .tmp t=>ye tm t k
  | .const v=>zm8 v k
  | .func f=>k (.func f [])
  | .global _=>False
def zwn (tm:List (Nat×SV)):List Operand→(List SV→Prop)→Prop
  | [],k=>k []
  |x ::xs,k=>evK tm x fun v=>zwn tm xs fun vs=>k (v ::vs)
def zcw (nt:Nat) (tm:List (Nat×SV)) (hp:List Blk) (d:Option Nat) (v:SV) (K:St→Prop):Prop:=
  match d with
  |some d=>match Nat.blt d nt with|true=>K ⟨(d,v) ::tm,hp⟩|false=>False
  |none=>K ⟨tm,hp⟩
def SV.isRow:SV→Bool
  | .arr8 .. | .arr32 .. | .arr64 .. | .arri .. | .arrs .. | .tab .. =>true
  |_=>false
mutual
def zbq:SV→(List SV→Prop)→Prop
  | .agg ps,k=>zen ps k
  |v,k=>k [v]
def zen:List SV→(List SV→Prop)→Prop
  | [],k=>k []
  |v ::vs,k=>zbq v fun a=>zen vs fun b=>zc8 a b k
end
def zbk:List SV→Nat→Nat→(List SV→List SV→Prop)→Prop
  |ps,0,b,k=>match Nat.beq b 0 with|true=>k [] ps|false=>False
  | [],_+1,_,_=>False
  |p ::ps,j+1,b,k=>match Nat.ble p.size b with|true=>zbk ps j (b-p.size) fun a r=>k (p ::a) r|false=>False
def zfc:List SV→Nat→(List SV→List SV→Prop)→Prop
  |ps,0,k=>k [] ps
  | [],_+1,_=>False
  |p ::ps,n+1,k=>match Nat.ble p.size (n+1) with|true=>zfc ps (n+1-p.size) fun a r=>k (p ::a) r|false=>False
def zh0 (ps:List SV) (k:SV→Prop):Prop:=
  match ps with
  | [p]=>match p.isRow with|true=>k p|false=>k (.agg [p])
  |ps=>k (.agg ps)
def zfq:List SV→(j b c:Nat)→(Nat→Nat→List (Nat×Nat)→Prop)→Prop
  |_,j,b,0,k=>k j b []
  | [],_,_,_+1,_=>False
  |p ::ps,j,b,c+1,k=>match Nat.ble p.size (c+1) with
   |true=>zfq ps (j+1) (b+p.size) (c+1-p.size) k
   |false=>match p.isRow with|true=>k j b [(c+1,1)]|false=>False
def ya:List (Nat×Nat)→Nat→Nat→List (Nat×Nat)
  | [],i,e=> [(i,e)]
  |(i',e') :: [],i,e=>match Nat.beq e' e with|true=> [(i'+i,e)]|false=> [(i',e'),(i,e)]
  |x ::y ::r,i,e=>x ::ya (y ::r) i e
def zj0 (o:List (Nat×Nat)) (es:Nat) (k:Nat→Nat→Prop):Prop:=
  match o with
  | []=>k 0 0
  | [(i,e)]=>match Nat.beq e es with|true=>k i 0|false=>False
  | [(i,e),(c,1)]=>match Nat.beq e es with|true=>k i c|false=>False
  |_=>False
def atK (a:At) (k:SV→Prop):Prop:=
  match a with
  | .bool b=>k (.bool b)| .int n=>k (.int n)| .u8 x=>k (.u8 x)| .u16 x=>k (.u16 x)| .u32 x=>k (.u32 x)| .u64 x=>k (.u64 x)| .str l=>k (.str l)
def z4x:List At→(List SV→Prop)→Prop
  | [],k=>k []
  |a ::as,k=>atK a fun v=>z4x as fun vs=>k (v ::vs)
def zu8 {α:Type}:List α→Nat→(List α→Prop)→Prop
  |l,0,k=>k l
  | [],_+1,_=>False
  |_ ::xs,n+1,k=>zu8 xs n k
def zpz {α:Type}:List α→Nat→(List α→Prop)→Prop
  |_,0,k=>k []
  | [],_+1,_=>False
  |x ::xs,n+1,k=>zpz xs n fun l=>k (x ::l)
def zmy (p:SV) (o:List (Nat×Nat)) (k:SV→Prop):Prop:=
  match p with
  | .arr8 _ l=>Pre (off o<l.length) (k (.u8 (l.getD (off o) 0)))
  | .arr32 _ l=>Pre (off o<l.length) (k (.u32 (l.getD (off o) 0)))
  | .arr64 _ l=>Pre (off o<l.length) (k (.u64 (l.getD (off o) 0)))
  | .arri _ l=>Pre (off o<l.length) (k (.int (l.getD (off o) 0)))
  | .arrs _ l=>Pre (off o<l.length) (k (.str (l.getD (off o) [])))
  | .tab n es f=>zj0 o es fun i c=>Pre (i<n) (zdt (f i) c fun a=>atK a k)
  | .agg _=>False
  | .tup _=>False
  |v=>match o with| []=>k v|_=>False
def zq0 (p:SV) (o:List (Nat×Nat)) (m:Nat) (k:SV→Prop):Prop:=
  match p with
  | .arr8 _ l=>Pre (off o+m≤l.length) (k (.arr8 m ((l.drop (off o)).take m)))
  | .arr32 _ l=>Pre (off o+m≤l.length) (k (.arr32 m ((l.drop (off o)).take m)))
  | .arr64 _ l=>Pre (off o+m≤l.length) (k (.arr64 m ((l.drop (off o)).take m)))
  | .arri _ l=>Pre (off o+m≤l.length) (k (.arri m ((l.drop (off o)).take m)))
  | .arrs _ l=>Pre (off o+m≤l.length) (k (.arrs m ((l.drop (off o)).take m)))
  | .tab n es f=>zj0 o es fun i c=>Pre (i<n) (zu8 (f i) c fun r=>zpz r m fun as=>z4x as fun vs=>k (.agg vs))
  |_=>False
def zmr (ti:TyI) (ps:List SV) (j b:Nat) (o:List (Nat×Nat)) (k:SV→Prop):Prop:=
  zbk ps j b fun _ r=>match ti.d with
    | .arr .. | .struct .. =>match o with
      | []=>zfc r ti.sz fun a _=>zh0 a k
      |_=>match r with|p ::_=>zq0 p o ti.sz k| []=>False
    |_=>match r with|p ::_=>zmy p o k| []=>False
def zr0:List SV→(List UInt64→Prop)→Prop
  | [],k=>k []
  | .u64 x ::r,k=>zr0 r fun l=>k (x ::l)
  |_,_=>False
def znw (v:SV) (k:At→Prop):Prop:=
  match v with
  | .bool b=>k (.bool b)| .int n=>k (.int n)| .u8 x=>k (.u8 x)| .u16 x=>k (.u16 x)| .u32 x=>k (.u32 x)| .u64 x=>k (.u64 x)| .str l=>k (.str l)
  |_=>False
def zj3:List SV→(List At→Prop)→Prop
  | [],k=>k []
  |v ::vs,k=>znw v fun a=>zj3 vs fun as=>k (a ::as)
def zt {α:Type} (l:List α) (i:Nat) (m:List α):List α:=l.take i++m++l.drop (i+m.length)
def zfj (f:Nat→List At) (i:Nat) (r:List At):Nat→List At:=fun x=>if x=i then r else f x
def zem (p:SV) (o:List (Nat×Nat)) (v:SV) (k:SV→Prop):Prop:=
  match p with
  | .arr8 n l=>match v with
    | .u8 x=>Pre (off o<l.length) (k (.arr8 n (l.set (off o) x)))
    | .arr8 m x=>Pre (off o+m≤l.length) (k (.arr8 n (zt l (off o) x)))
    |_=>False
  | .arr32 n l=>match v with
    | .u32 x=>Pre (off o<l.length) (k (.arr32 n (l.set (off o) x)))
    | .arr32 m x=>Pre (off o+m≤l.length) (k (.arr32 n (zt l (off o) x)))
    |_=>False
  | .arr64 n l=>match v with
    | .u64 x=>Pre (off o<l.length) (k (.arr64 n (l.set (off o) x)))
    | .arr64 m x=>Pre (off o+m≤l.length) (k (.arr64 n (zt l (off o) x)))
    | .agg vs=>zr0 vs fun x=>Pre (off o+x.length≤l.length) (k (.arr64 n (zt l (off o) x)))
    |_=>False
  | .arri n l=>match v with
    | .int x=>Pre (off o<l.length) (k (.arri n (l.set (off o) x)))
    | .arri m x=>Pre (off o+m≤l.length) (k (.arri n (zt l (off o) x)))
    |_=>False
  | .arrs n l=>match v with
    | .str x=>Pre (off o<l.length) (k (.arrs n (l.set (off o) x)))
    |_=>False
  | .tab n es f=>match v with
    | .agg vs=>zj3 vs fun as=>zj0 o es fun i c=>match c with
      |0=>Pre (i<n∧as.length=es) (k (.tab n es (zfj f i as)))
      |_=>False
    |v=>znw v fun a=>zj0 o es fun i c=>Pre (i<n) (zij (f i) c a fun r=>k (.tab n es (zfj f i r)))
  | .agg _=>False
  | .tup _=>False
  |_=>match o with
   | []=>match v.scalar with|true=>k v|false=>False
   |_=>False
def SV.plain (v:SV):Bool:=match v with| .agg _=>false| .tup _=>false|_=>true
def zhe:List SV→Bool
  | []=>true
  |v ::vs=>match v.plain with|true=>zhe vs|false=>false
def zeg (ti:TyI) (ps:List SV) (j b:Nat) (o:List (Nat×Nat)) (v:SV) (k:List SV→Prop):Prop:=
  zbk ps j b fun a r=>
    match o with
    | []=>match v.many with
      |true=>zfc r ti.sz fun _ r'=>zbq v fun fs=>match Nat.beq (z6 fs) ti.sz with|true=>(match zhe fs with|true=>zc8 fs r' fun q=>zc8 a q k|false=>False)|false=>False
      |false=>match Nat.beq ti.sz 1 with
       |true=>match r with|p ::r'=>zem p [] v fun p'=>zc8 a (p' ::r') k| []=>False
       |false=>False
    |_=>match Nat.beq v.size ti.sz with
     |true=>match r with|p ::r'=>zem p o v fun p'=>zc8 a (p' ::r') k| []=>False
     |false=>False
def yo (n:Int):Prop:= -9223372036854775808≤n∧n<9223372036854775808
def za5 (op:BinOp) (a b:Int):Int:=
  IntKind.i64.wrap (match op with
    | .and=>((BitVec.ofInt 64 a&&&BitVec.ofInt 64 b).toNat:Int)
    | .or=>((BitVec.ofInt 64 a|||BitVec.ofInt 64 b).toNat:Int)
    | .xor=>((BitVec.ofInt 64 a^^^BitVec.ofInt 64 b).toNat:Int)
    |_=>((BitVec.ofInt 64 a&&& ~~~(BitVec.ofInt 64 b)).toNat:Int))
def z24 (op:BinOp) (a b:Int) (k:SV→Prop):Prop:=
  match op with
  | .add=>Pre (yo (a+b)) (k (.int (a+b)))
  | .sub=>Pre (yo (a-b)) (k (.int (a-b)))
  | .mul=>Pre (yo (a*b)) (k (.int (a*b)))
  | .quo=>Pre (b≠0∧yo (a.tdiv b)) (k (.int (a.tdiv b)))
  | .rem=>Pre (b≠0) (k (.int (a.tmod b)))
  | .and=>k (.int (za5 .and a b))
  | .or=>k (.int (za5 .or a b))
  | .xor=>k (.int (za5 .xor a b))
  | .andNot=>k (.int (za5 .andNot a b))
  | .eql=>k (.bool (decide (a=b)))
  | .neq=>k (.bool (!decide (a=b)))
  | .lss=>k (.bool (decide (a<b)))
  | .leq=>k (.bool (decide (a≤b)))
  | .gtr=>k (.bool (decide (a>b)))
  | .geq=>k (.bool (decide (a≥b)))
  |_=>False
def z22 (y:SV) (k:Nat→Prop):Prop:=
  match y with
  | .int n=>Pre (0≤n) (k n.toNat)
  | .u8 x=>k x.toNat
  | .u16 x=>k x.toNat
  | .u32 x=>k x.toNat
  | .u64 x=>k x.toNat
  |_=>False
def u8K (op:BinOp) (a b:UInt8) (k:SV→Prop):Prop:=
  match op with
  | .add=>k (.u8 (a+b))
  | .sub=>k (.u8 (a-b))
  | .mul=>k (.u8 (a*b))
  | .quo=>Pre (b.toNat≠0) (k (.u8 (a/ b)))
  | .rem=>Pre (b.toNat≠0) (k (.u8 (a%b)))
  | .and=>k (.u8 (a&&&b))
  | .or=>k (.u8 (a|||b))
  | .xor=>k (.u8 (a^^^b))
  | .andNot=>k (.u8 (a&&& ~~~b))
  | .eql=>k (.bool (decide (a=b)))
  | .neq=>k (.bool (!decide (a=b)))
  | .lss=>k (.bool (decide (a<b)))
  | .leq=>k (.bool (decide (a≤b)))
  | .gtr=>k (.bool (decide (b<a)))
  | .geq=>k (.bool (decide (b≤a)))
  |_=>False
def z3t (op:BinOp) (a b:UInt16) (k:SV→Prop):Prop:=
  match op with
  | .add=>k (.u16 (a+b))
  | .sub=>k (.u16 (a-b))
  | .mul=>k (.u16 (a*b))
  | .quo=>Pre (b.toNat≠0) (k (.u16 (a/ b)))
  | .rem=>Pre (b.toNat≠0) (k (.u16 (a%b)))
  | .and=>k (.u16 (a&&&b))
  | .or=>k (.u16 (a|||b))
  | .xor=>k (.u16 (a^^^b))
  | .andNot=>k (.u16 (a&&& ~~~b))
  | .eql=>k (.bool (decide (a=b)))
  | .neq=>k (.bool (!decide (a=b)))
  | .lss=>k (.bool (decide (a<b)))
  | .leq=>k (.bool (decide (a≤b)))
  | .gtr=>k (.bool (decide (b<a)))
  | .geq=>k (.bool (decide (b≤a)))
  |_=>False
def z4d (op:BinOp) (a b:UInt32) (k:SV→Prop):Prop:=
  match op with
  | .add=>k (.u32 (a+b))
  | .sub=>k (.u32 (a-b))
  | .mul=>k (.u32 (a*b))
  | .quo=>Pre (b.toNat≠0) (k (.u32 (a/ b)))
  | .rem=>Pre (b.toNat≠0) (k (.u32 (a%b)))
  | .and=>k (.u32 (a&&&b))
  | .or=>k (.u32 (a|||b))
  | .xor=>k (.u32 (a^^^b))
  | .andNot=>k (.u32 (a&&& ~~~b))
  | .eql=>k (.bool (decide (a=b)))
  | .neq=>k (.bool (!decide (a=b)))
  | .lss=>k (.bool (decide (a<b)))
  | .leq=>k (.bool (decide (a≤b)))
  | .gtr=>k (.bool (decide (b<a)))
  | .geq=>k (.bool (decide (b≤a)))
  |_=>False
def z4w (op:BinOp) (a b:UInt64) (k:SV→Prop):Prop:=
  match op with
  | .add=>k (.u64 (a+b))
  | .sub=>k (.u64 (a-b))
  | .mul=>k (.u64 (a*b))
  | .quo=>Pre (b.toNat≠0) (k (.u64 (a/ b)))
  | .rem=>Pre (b.toNat≠0) (k (.u64 (a%b)))
  | .and=>k (.u64 (a&&&b))
  | .or=>k (.u64 (a|||b))
  | .xor=>k (.u64 (a^^^b))
  | .andNot=>k (.u64 (a&&& ~~~b))
  | .eql=>k (.bool (decide (a=b)))
  | .neq=>k (.bool (!decide (a=b)))
  | .lss=>k (.bool (decide (a<b)))
  | .leq=>k (.bool (decide (a≤b)))
  | .gtr=>k (.bool (decide (b<a)))
  | .geq=>k (.bool (decide (b≤a)))
  |_=>False
def z29 (x y:SV) (k:SV→Prop):Prop:=
  z22 y fun n=>match x with
    | .int a=>Pre (n<64∧yo (a*2^n)) (k (.int (a*2^n)))
    | .u8 a=>Pre (n<8) (k (.u8 (a<<<UInt8.ofNat n)))
    | .u16 a=>Pre (n<16) (k (.u16 (a<<<UInt16.ofNat n)))
    | .u32 a=>Pre (n<32) (k (.u32 (a<<<UInt32.ofNat n)))
    | .u64 a=>Pre (n<64) (k (.u64 (a<<<UInt64.ofNat n)))
    |_=>False
def z48 (x y:SV) (k:SV→Prop):Prop:=
  z22 y fun n=>match x with
    | .int a=>Pre (n<64) (k (.int (a/ 2^n)))
    | .u8 a=>Pre (n<8) (k (.u8 (a>>>UInt8.ofNat n)))
    | .u16 a=>Pre (n<16) (k (.u16 (a>>>UInt16.ofNat n)))
    | .u32 a=>Pre (n<32) (k (.u32 (a>>>UInt32.ofNat n)))
    | .u64 a=>Pre (n<64) (k (.u64 (a>>>UInt64.ofNat n)))
    |_=>False
def z30 (op:BinOp) (a b:List UInt8) (k:SV→Prop):Prop:=
  match op with
  | .add=>Pre (a.length+b.length<9223372036854775808) (k (.str (a++b)))
  | .eql=>k (.bool (decide (a=b)))
  | .neq=>k (.bool (!decide (a=b)))
  |_=>False
def zxr (op:BinOp) (x y:SV) (k:SV→Prop):Prop:=
  match op with
  | .shl=>z29 x y k
  | .shr=>z48 x y k
  |op=>match x,y with
   | .int a,.int b=>z24 op a b k
   | .u8 a,.u8 b=>u8K op a b k
   | .u16 a,.u16 b=>z3t op a b k
   | .u32 a,.u32 b=>z4d op a b k
   | .u64 a,.u64 b=>z4w op a b k
   | .str a,.str b=>z30 op a b k
   |_,_=>False
def unK (op:UnOp) (x:SV) (k:SV→Prop):Prop:=
  match op,x with
  | .not,.bool b=>k (.bool (!b))
  | .neg,.int a=>Pre (yo (0-a)) (k (.int (0-a)))
  | .neg,.u8 a=>k (.u8 (0-a))
  | .neg,.u16 a=>k (.u16 (0-a))
  | .neg,.u32 a=>k (.u32 (0-a))
  | .neg,.u64 a=>k (.u64 (0-a))
  | .xor,.u8 a=>k (.u8 (~~~a))
  | .xor,.u16 a=>k (.u16 (~~~a))
  | .xor,.u32 a=>k (.u32 (~~~a))
  | .xor,.u64 a=>k (.u64 (~~~a))
  |_,_=>False
def zf0 (d:IntKind) (x:SV) (k:SV→Prop):Prop:=
  match d,x with
  | .i64,.int n=>Pre (yo n) (k (.int n))
  | .i64,.u8 a=>k (.int a.toNat)
  | .i64,.u16 a=>k (.int a.toNat)
  | .i64,.u32 a=>k (.int a.toNat)
  | .i64,.u64 a=>Pre (a.toNat<9223372036854775808) (k (.int a.toNat))
  | .u8,.int n=>k (.u8 (UInt8.ofInt n))
  | .u8,.u8 a=>k (.u8 a)
  | .u8,.u16 a=>k (.u8 a.toUInt8)
  | .u8,.u32 a=>k (.u8 a.toUInt8)
  | .u8,.u64 a=>k (.u8 a.toUInt8)
  | .u16,.int n=>k (.u16 (UInt16.ofInt n))
  | .u16,.u8 a=>k (.u16 a.toUInt16)
  | .u16,.u16 a=>k (.u16 a)
  | .u16,.u32 a=>k (.u16 a.toUInt16)
  | .u16,.u64 a=>k (.u16 a.toUInt16)
  | .u32,.int n=>k (.u32 (UInt32.ofInt n))
  | .u32,.u8 a=>k (.u32 a.toUInt32)
  | .u32,.u16 a=>k (.u32 a.toUInt32)
  | .u32,.u32 a=>k (.u32 a)
  | .u32,.u64 a=>k (.u32 a.toUInt32)
  | .u64,.int n=>k (.u64 (UInt64.ofInt n))
  | .u64,.u8 a=>k (.u64 a.toUInt64)
  | .u64,.u16 a=>k (.u64 a.toUInt64)
  | .u64,.u32 a=>k (.u64 a.toUInt64)
  | .u64,.u64 a=>k (.u64 a)
  |_,_=>False
end Go.Sym
