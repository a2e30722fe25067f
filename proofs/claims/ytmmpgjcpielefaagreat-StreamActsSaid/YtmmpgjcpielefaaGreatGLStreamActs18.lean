/-
  Contracts of functions of the program, each said of symbolic values, and plain laws; no condition beyond each statement's own.
-/
import Derived.Test.YtmmpgjcpielefaaGreatGLStreamActs17
set_option linter.unusedSimpArgs false
set_option linter.unusedVariables false
namespace Go.Sym.Z
open Go Go.Proofs.Tryz Go.Sym.Lp Go.Sym.Cha Go.Sym.Sha Go.Sym.Hk Go.Sym.Gcm
set_option maxRecDepth 100000
def yhb:List (Nat×List PStep):= [(1,[⟨0,[]⟩,⟨1,[0]⟩,⟨2,[]⟩,⟨3,[0,1,2]⟩,⟨4,[0,1,2,3]⟩,⟨5,[0,1,2,3]⟩,⟨6,[0,1,2]⟩,⟨7,[]⟩,⟨8,[]⟩])]
def yjx:List (Nat×List PStep):= [(1,[⟨0,[]⟩,⟨1,[0]⟩,⟨2,[]⟩,⟨3,[0,1,2]⟩,⟨4,[0,1,2,3]⟩,⟨5,[0,1,2,3]⟩,⟨6,[0,1,2]⟩,⟨7,[]⟩,⟨8,[]⟩])]
def ygu:List (Nat×List PStep):= [(6,[⟨0,[]⟩,⟨1,[0]⟩,⟨2,[0,1]⟩,⟨3,[0,1]⟩,⟨4,[0]⟩,⟨5,[0]⟩,⟨6,[0]⟩,⟨7,[0,1,2,3,4,5,6]⟩,⟨8,[0,1,2,3,4,5,6,7]⟩,⟨9,[0,1,2,3,4,5,6,7]⟩,⟨10,[0,1,2,3,4,5,6,7]⟩,⟨11,[0,1,2,3,4,5,6]⟩,⟨12,[0,1,2,3,4,5,6]⟩,⟨13,[0,1,2,3,4,5,6]⟩,⟨14,[0]⟩,⟨15,[0,1,2,3,4,5,6,7,8,9,10,11,12,13,14]⟩,⟨16,[0,1,2,3,4,5,6,7,8,9,10,11,12,13,14,15]⟩,⟨17,[0,1,2,3,4,5,6,7,8,9,10,11,12,13,14,15]⟩,⟨18,[0,1,2,3,4,5,6,7,8,9,10,11,12,13,14,15]⟩,⟨19,[0,1,2,3,4,5,6,7,8,9,10,11,12,13,14]⟩,⟨20,[0,1,2,3,4,5,6,7,8,9,10,11,12,13,14]⟩,⟨21,[0,1,2,3,4,5,6,7,8,9,10,11,12,13,14]⟩,⟨22,[0]⟩,⟨23,[0,1,2,3,4,5,6,7,8,9,10,11,12,13,14,15,16,17,18,19,20,21,22]⟩,⟨24,[0,1,2,3,4,5,6,7,8,9,10,11,12,13,14,15,16,17,18,19,20,21,22,23]⟩,⟨25,[0,1,2,3,4,5,6,7,8,9,10,11,12,13,14,15,16,17,18,19,20,21,22,23]⟩,⟨26,[0,1,2,3,4,5,6,7,8,9,10,11,12,13,14,15,16,17,18,19,20,21,22,23]⟩,⟨27,[0,1,2,3,4,5,6,7,8,9,10,11,12,13,14,15,16,17,18,19,20,21,22]⟩,⟨28,[0,1,2,3,4,5,6,7,8,9,10,11,12,13,14,15,16,17,18,19,20,21,22]⟩,⟨29,[0]⟩,⟨30,[]⟩,⟨31,[]⟩]),(10,[⟨0,[]⟩,⟨1,[]⟩,⟨2,[]⟩,⟨3,[]⟩,⟨5,[0,1,2,3]⟩,⟨6,[0,1,2,3]⟩,⟨7,[0,1,2,3]⟩,⟨8,[0,1,2,3]⟩,⟨11,[0,1,2,3,5,6,7,8]⟩,⟨12,[0,1,2,3,5,6,7,8]⟩,⟨13,[0,1,2,3,5,6,7,8]⟩,⟨14,[0,1,2,3,5,6,7,8]⟩,⟨15,[0,1,2,3,5,6,7,8]⟩,⟨4,[5,6,7,8,11,12,13,14,15]⟩,⟨9,[11,12,13,14,15]⟩,⟨10,[11,12,13,14,15]⟩,⟨16,[]⟩,⟨17,[]⟩]),(11,[⟨0,[]⟩,⟨1,[]⟩,⟨2,[]⟩,⟨3,[]⟩,⟨5,[0,1,2,3]⟩,⟨6,[0,1,2,3]⟩,⟨7,[0,1,2,3]⟩,⟨8,[0,1,2,3]⟩,⟨11,[0,1,2,3,5,6,7,8]⟩,⟨12,[0,1,2,3,5,6,7,8]⟩,⟨13,[0,1,2,3,5,6,7,8]⟩,⟨14,[0,1,2,3,5,6,7,8]⟩,⟨15,[0,1,2,3,5,6,7,8]⟩,⟨4,[5,6,7,8,11,12,13,14,15]⟩,⟨9,[11,12,13,14,15]⟩,⟨10,[11,12,13,14,15]⟩,⟨16,[]⟩,⟨17,[]⟩]),(12,[⟨0,[]⟩,⟨1,[0]⟩,⟨2,[0]⟩,⟨3,[0]⟩,⟨4,[0]⟩,⟨5,[0,1,2,3,4]⟩,⟨6,[0]⟩,⟨7,[0,1,2,3,4,5,6]⟩,⟨8,[0,1,2,3,4,5,6]⟩,⟨9,[0,1,2,3,4,5,6]⟩,⟨10,[0,1,2,3,4,5,6]⟩,⟨11,[0]⟩,⟨12,[0,1,2,3,4,5,6,7,8,9,10,11]⟩,⟨13,[0]⟩,⟨14,[]⟩,⟨15,[]⟩]),(17,[⟨0,[]⟩,⟨1,[]⟩,⟨3,[0,1]⟩,⟨4,[0,1]⟩,⟨7,[0,1,3,4]⟩,⟨8,[0,1,3,4]⟩,⟨2,[3,4,7,8]⟩,⟨5,[7,8]⟩,⟨6,[7,8]⟩,⟨9,[6]⟩,⟨10,[]⟩,⟨11,[]⟩]),(18,[⟨0,[]⟩,⟨1,[]⟩,⟨2,[0,1]⟩,⟨3,[]⟩,⟨4,[0,1,2,3]⟩,⟨5,[0,1,2,3]⟩,⟨6,[0,1,2,3,4,5]⟩,⟨7,[0,1,2,3,4,5]⟩,⟨8,[0,1,2,3]⟩,⟨9,[0,1,2,3,4,5,6,7,8]⟩,⟨10,[0,1,2,3,4,5,6,7,8]⟩,⟨11,[0,1,2,3,4,5,6,7,8]⟩,⟨12,[0,1,2,3,4,5,6,7,8,9,10,11]⟩,⟨13,[0,1,2,3,4,5,6,7,8,9,10,11]⟩,⟨14,[0,1,2,3,4,5,6,7,8]⟩,⟨15,[0,1,2,3]⟩,⟨16,[]⟩,⟨17,[0,1,2,3,4,5,6,7,8,9,10,11,12,13,14,15,16]⟩,⟨18,[0,1,2,3,4,5,6,7,8,9,10,11,12,13,14,15,16]⟩,⟨19,[0,1,2,3,4,5,6,7,8,9,10,11,12,13,14,15,16]⟩,⟨20,[]⟩,⟨21,[0,1,2,3,4,5,6,7,8,9,10,11,12,13,14,15,16,17,18,19,20]⟩,⟨22,[0,1,2,3,4,5,6,7,8,9,10,11,12,13,14,15,16,17,18,19,20]⟩,⟨23,[0,1,2,3,4,5,6,7,8,9,10,11,12,13,14,15,16,17,18,19,20]⟩,⟨24,[]⟩,⟨25,[]⟩]),(19,[⟨0,[]⟩,⟨1,[]⟩,⟨3,[0,1]⟩,⟨4,[0,1]⟩,⟨7,[0,1,3,4]⟩,⟨8,[0,1,3,4]⟩,⟨2,[3,4,7,8]⟩,⟨5,[7,8]⟩,⟨6,[7,8]⟩,⟨9,[6]⟩,⟨10,[]⟩,⟨11,[]⟩]),(25,[⟨0,[]⟩,⟨1,[0]⟩,⟨2,[0]⟩,⟨3,[0]⟩,⟨4,[0,1,2,3]⟩,⟨5,[0,1,2,3]⟩,⟨6,[0,1,2,3]⟩,⟨7,[0]⟩,⟨8,[]⟩,⟨9,[]⟩])]
def yjq:List (Nat×List PStep):= [(9,[⟨0,[]⟩,⟨1,[0]⟩,⟨2,[0]⟩,⟨3,[0]⟩,⟨4,[0]⟩,⟨5,[0,1,2,3,4]⟩,⟨6,[0,1,2,3,4,5]⟩,⟨7,[0,1,2,3,4,5]⟩,⟨8,[0,1,2,3,4,5,6,7]⟩,⟨9,[0,1,2,3,4,5]⟩,⟨10,[0,1,2,3,4]⟩,⟨11,[0,1,2,3,4]⟩,⟨12,[0]⟩,⟨13,[]⟩,⟨14,[]⟩]),(13,[⟨0,[]⟩,⟨1,[]⟩,⟨2,[]⟩,⟨3,[]⟩,⟨5,[0,1,2,3]⟩,⟨6,[0,1,2,3]⟩,⟨7,[0,1,2,3]⟩,⟨8,[0,1,2,3]⟩,⟨11,[0,1,2,3,5,6,7,8]⟩,⟨12,[0,1,2,3,5,6,7,8]⟩,⟨13,[0,1,2,3,5,6,7,8]⟩,⟨14,[0,1,2,3,5,6,7,8]⟩,⟨15,[0,1,2,3,5,6,7,8]⟩,⟨4,[5,6,7,8,11,12,13,14,15]⟩,⟨9,[11,12,13,14,15]⟩,⟨10,[11,12,13,14,15]⟩,⟨16,[]⟩,⟨17,[]⟩]),(14,[⟨0,[]⟩,⟨1,[]⟩,⟨2,[]⟩,⟨3,[]⟩,⟨5,[0,1,2,3]⟩,⟨6,[0,1,2,3]⟩,⟨7,[0,1,2,3]⟩,⟨8,[0,1,2,3]⟩,⟨11,[0,1,2,3,5,6,7,8]⟩,⟨12,[0,1,2,3,5,6,7,8]⟩,⟨13,[0,1,2,3,5,6,7,8]⟩,⟨14,[0,1,2,3,5,6,7,8]⟩,⟨15,[0,1,2,3,5,6,7,8]⟩,⟨4,[5,6,7,8,11,12,13,14,15]⟩,⟨9,[11,12,13,14,15]⟩,⟨10,[11,12,13,14,15]⟩,⟨16,[]⟩,⟨17,[]⟩]),(15,[⟨0,[]⟩,⟨1,[0]⟩,⟨2,[0]⟩,⟨3,[0]⟩,⟨4,[0]⟩,⟨5,[0,1,2,3,4]⟩,⟨6,[0]⟩,⟨7,[0,1,2,3,4,5,6]⟩,⟨8,[0,1,2,3,4,5,6]⟩,⟨9,[0,1,2,3,4,5,6]⟩,⟨10,[0,1,2,3,4,5,6]⟩,⟨11,[0]⟩,⟨12,[0,1,2,3,4,5,6,7,8,9,10,11]⟩,⟨13,[0]⟩,⟨14,[]⟩,⟨15,[]⟩]),(20,[⟨0,[]⟩,⟨1,[]⟩,⟨3,[0,1]⟩,⟨4,[0,1]⟩,⟨7,[0,1,3,4]⟩,⟨8,[0,1,3,4]⟩,⟨2,[3,4,7,8]⟩,⟨5,[7,8]⟩,⟨6,[7,8]⟩,⟨9,[6]⟩,⟨10,[]⟩,⟨11,[]⟩]),(21,[⟨0,[]⟩,⟨1,[]⟩,⟨2,[0,1]⟩,⟨3,[]⟩,⟨4,[0,1,2,3]⟩,⟨5,[0,1,2,3]⟩,⟨6,[0,1,2,3,4,5]⟩,⟨7,[0,1,2,3,4,5]⟩,⟨8,[0,1,2,3]⟩,⟨9,[0,1,2,3,4,5,6,7,8]⟩,⟨10,[0,1,2,3,4,5,6,7,8]⟩,⟨11,[0,1,2,3,4,5,6,7,8]⟩,⟨12,[0,1,2,3,4,5,6,7,8,9,10,11]⟩,⟨13,[0,1,2,3,4,5,6,7,8,9,10,11]⟩,⟨14,[0,1,2,3,4,5,6,7,8]⟩,⟨15,[0,1,2,3]⟩,⟨16,[]⟩,⟨17,[0,1,2,3,4,5,6,7,8,9,10,11,12,13,14,15,16]⟩,⟨18,[0,1,2,3,4,5,6,7,8,9,10,11,12,13,14,15,16]⟩,⟨19,[0,1,2,3,4,5,6,7,8,9,10,11,12,13,14,15,16]⟩,⟨20,[]⟩,⟨21,[0,1,2,3,4,5,6,7,8,9,10,11,12,13,14,15,16,17,18,19,20]⟩,⟨22,[0,1,2,3,4,5,6,7,8,9,10,11,12,13,14,15,16,17,18,19,20]⟩,⟨23,[0,1,2,3,4,5,6,7,8,9,10,11,12,13,14,15,16,17,18,19,20]⟩,⟨24,[]⟩,⟨25,[]⟩]),(22,[⟨0,[]⟩,⟨1,[]⟩,⟨3,[0,1]⟩,⟨4,[0,1]⟩,⟨7,[0,1,3,4]⟩,⟨8,[0,1,3,4]⟩,⟨2,[3,4,7,8]⟩,⟨5,[7,8]⟩,⟨6,[7,8]⟩,⟨9,[6]⟩,⟨10,[]⟩,⟨11,[]⟩]),(28,[⟨0,[]⟩,⟨1,[0]⟩,⟨2,[0]⟩,⟨3,[0]⟩,⟨4,[0,1,2,3]⟩,⟨5,[0,1,2,3]⟩,⟨6,[0,1,2,3]⟩,⟨7,[0]⟩,⟨8,[]⟩,⟨9,[]⟩])]
def yme:List (Nat×TyI):= [(3,ty3),(4,ty4),(5,ty5),(9,ty9),(48,zd6),(51,zeb),(113,xw),(99,xj),(242,zl2),(245,zma),(249,zmi),(239,zmj)]
theorem zc6: ∀t i,y8 yme t=some i→yt prog t i:=(zc zbg (zc zbj (zc zbc (zc zbf (zc zaq (zc zap (zc zai (zc za6 (zc zwb (zc zu7 (zc zvr (zc zu4 x1))))))))))))
def z76:Spec:=fun args hp K=>match args,hp with
  | [.u32 x,.int k],[]=>Pre (0<k∧k<32) (K (.u32 (zh8 x k.toNat)) [])
  |_,_=>False
theorem yfi:zp prog 187 z76:=by
  refine zm zc6 zi rfl func187 rfl call187 (D:=yhb) ?_ ?_
  ·intro args hp K h
   unfold z76 at h
   split at h
   ·exact Nat.le_of_ble_eq_true rfl
   ·exact h.elim
  ·intro args hp K h
   unfold z76 at h
   split at h
   ·rename_i x k
    obtain ⟨⟨h0,h1⟩,h⟩:=zq h
    have e:(32-k).toNat=32-k.toNat:=by omega
    refine za ?_
    rw [e]
    conv=>whnf
    exact zf [] h
   ·exact h.elim
def zys:Spec:=fun args hp K=>match args,hp with
  | [.u64 x,.int k],[]=>Pre (0<k∧k<64) (K (.u64 (zh9 x k.toNat)) [])
  |_,_=>False
theorem yci:zp prog 188 zys:=by
  refine zm zc6 zi rfl func188 rfl call188 (D:=yjx) ?_ ?_
  ·intro args hp K h
   unfold zys at h
   split at h
   ·exact Nat.le_of_ble_eq_true rfl
   ·exact h.elim
  ·intro args hp K h
   unfold zys at h
   split at h
   ·rename_i x k
    obtain ⟨⟨h0,h1⟩,h⟩:=zq h
    have e:(64-k).toNat=64-k.toNat:=by omega
    refine za ?_
    rw [e]
    conv=>whnf
    exact zf [] h
   ·exact h.elim
theorem w4 {s:List UInt8} {i:Nat} (h:4*i+4≤s.length):(s.getD (4*i) 0).toUInt32<<<24|||(s.getD (4*i+1) 0).toUInt32<<<16|||(s.getD (4*i+2) 0).toUInt32<<<8|||(s.getD (4*i+3) 0).toUInt32=(num ((s.drop (4*i)).take 4)).toUInt32:=by
  rw [Go.Sym.Aes.take4 h];exact yf6 _ _ _ _
theorem ydx {b:List UInt8} {i:Nat} (h:16≤i):xa b (i+1)=(xa b i).set i (g32 (xa b i) (i-16)+(zh8 (g32 (xa b i) (i-15)) 7^^^zh8 (g32 (xa b i) (i-15)) 18^^^g32 (xa b i) (i-15)>>>3)+g32 (xa b i) (i-7)+(zh8 (g32 (xa b i) (i-2)) 17^^^zh8 (g32 (xa b i) (i-2)) 19^^^g32 (xa b i) (i-2)>>>10)):=by
  rw [z7y (by omega),zc5 (by decide),zc5 (by decide),zc5 (by decide),zc5 (by decide)]
  have c: ∀a b c:UInt32,a+b+c=a+c+b:=fun a b c=>by rw [UInt32.add_assoc,UInt32.add_comm b,←UInt32.add_assoc]
  rw [c _ (g32 (xa b i) (i-7))]
  rfl
theorem yfl {b:List UInt8} {i:Nat} (h:16≤i):y9 b (i+1)=(y9 b i).set i (g64 (y9 b i) (i-16)+(zh9 (g64 (y9 b i) (i-15)) 1^^^zh9 (g64 (y9 b i) (i-15)) 8^^^g64 (y9 b i) (i-15)>>>7)+g64 (y9 b i) (i-7)+(zh9 (g64 (y9 b i) (i-2)) 19^^^zh9 (g64 (y9 b i) (i-2)) 61^^^g64 (y9 b i) (i-2)>>>6)):=by
  rw [zxo (by omega),zc8 (by decide),zc8 (by decide),zc8 (by decide),zc8 (by decide)]
  have c: ∀a b c:UInt64,a+b+c=a+c+b:=fun a b c=>by rw [UInt64.add_assoc,UInt64.add_comm b,←UInt64.add_assoc]
  rw [c _ (g64 (y9 b i) (i-7))]
  rfl
theorem yiy (k:List UInt64) (w s:List UInt32) (i:Nat):zck k w s (i+1)=z43 (zck k w s i) (g64 k i>>>32).toUInt32 (g32 w i):=rfl
theorem yhx (k w s:List UInt64) (i:Nat):zcq k w s (i+1)=z5l (zcq k w s i) (g64 k i) (g64 w i):=rfl
theorem ycs (s:List UInt32) (k w:UInt32):z43 s k w=
    [g32 s 7+(zh8 (g32 s 4) 6^^^zh8 (g32 s 4) 11^^^zh8 (g32 s 4) 25)+(g32 s 4&&&g32 s 5^^^ ~~~g32 s 4&&&g32 s 6)+k+w+((zh8 (g32 s 0) 2^^^zh8 (g32 s 0) 13^^^zh8 (g32 s 0) 22)+(g32 s 0&&&g32 s 1^^^g32 s 0&&&g32 s 2^^^g32 s 1&&&g32 s 2)),g32 s 0,g32 s 1,g32 s 2,g32 s 3+(g32 s 7+(zh8 (g32 s 4) 6^^^zh8 (g32 s 4) 11^^^zh8 (g32 s 4) 25)+(g32 s 4&&&g32 s 5^^^ ~~~g32 s 4&&&g32 s 6)+k+w),g32 s 4,g32 s 5,g32 s 6]:=by
  rw [zc5 (by decide),zc5 (by decide),zc5 (by decide),zc5 (by decide),zc5 (by decide),zc5 (by decide)];rfl
theorem ybn (s:List UInt64) (k w:UInt64):z5l s k w=
    [g64 s 7+(zh9 (g64 s 4) 14^^^zh9 (g64 s 4) 18^^^zh9 (g64 s 4) 41)+(g64 s 4&&&g64 s 5^^^ ~~~g64 s 4&&&g64 s 6)+k+w+((zh9 (g64 s 0) 28^^^zh9 (g64 s 0) 34^^^zh9 (g64 s 0) 39)+(g64 s 0&&&g64 s 1^^^g64 s 0&&&g64 s 2^^^g64 s 1&&&g64 s 2)),g64 s 0,g64 s 1,g64 s 2,g64 s 3+(g64 s 7+(zh9 (g64 s 4) 14^^^zh9 (g64 s 4) 18^^^zh9 (g64 s 4) 41)+(g64 s 4&&&g64 s 5^^^ ~~~g64 s 4&&&g64 s 6)+k+w),g64 s 4,g64 s 5,g64 s 6]:=by
  rw [zc8 (by decide),zc8 (by decide),zc8 (by decide),zc8 (by decide),zc8 (by decide),zc8 (by decide)];rfl
theorem yis (b:List UInt8) (i:Nat):zcf b (i+1)=zcf b i<<<8|||(b.getD i 0).toUInt64:=rfl
theorem yb4:K32.length=64:=rfl
attribute [local irreducible] zcf xa y9 zck zcq KC K32
def zk0:Spec:=fun args hp K=>match args,hp with
  | [.arr32 8 H,.str s],[]=>Pre (H.length=8∧s.length=64) (K (.arr32 8 (b32 H s)) [])
  |_,_=>False
set_option maxHeartbeats 8000000 in
theorem zyr:zp prog 180 zk0:=by
  refine zm zc6 (zd yfi zi) rfl func180 rfl call180 (D:=ygu) ?_ ?_
  ·intro args hp K h
   unfold zk0 at h
   split at h
   ·exact Nat.le_of_ble_eq_true rfl
   ·exact h.elim
  ·intro args hp K h
   unfold zk0 at h
   split at h
   ·rename_i H s
    obtain ⟨⟨hH,hs⟩,h⟩:=zq h
    have hKl:K32.length=64:=yb4
    refine za ?_
    refine zt (Ix (16)) (fun q=>⟨[(1,.str s),(2,.ptr 0 0 0 []),(4,.ptr 1 0 0 []),(5,.ptr 2 0 0 []),(6,.ptr 3 0 0 []),(7,.int q.i)],[.mk 239 [.arr32 8 H],.mk 239 [.arr32 8 [0,0,0,0,0,0,0,0]],.mk 249 [.arr32 64 K32],.mk 249 [.arr32 64 (xa s q.i)]]⟩) (fun q=>(16)-q.i) ⟨0,Nat.zero_le _⟩ [0,1,2,3] ?_ ?_
    ·repeat ((conv=>whnf);refine zb ?_)
     conv=>whnf
     refine zv (congrArg (fun x=>SV.agg [SV.arr32 64 x]) (show _=K32 by unfold K32;decide+kernel)) ?_
     repeat ((conv=>whnf);refine zb ?_)
     conv=>whnf
     exact zo (congrArg (fun x=>SV.agg [SV.arr32 64 x]) (show _=xa s 0 by unfold xa;rfl))
    ·intro q
     have hi:=q.hi
     have hwl:=zh2 s q.i
     have hI:((q.i:Nat):Int).toNat=q.i:=Int.toNat_natCast _
     have hx0:off (yb [] ((q.i:Int)).toNat xw.sz)=q.i:=by rw [zy];show 0+((q.i:Int)).toNat*1=_;omega
     by_cases h4:q.i<16
     ·have i0:(4*(q.i:Int)).toNat=4*q.i:=by omega
      have i1:(4*(q.i:Int)+1).toNat=4*q.i+1:=by omega
      have i2:(4*(q.i:Int)+2).toNat=4*q.i+2:=by omega
      have i3:(4*(q.i:Int)+3).toNat=4*q.i+3:=by omega
      refine za ?_
      refine ⟨⟨q.i+1,h4⟩,[0,1,2,3],by show (16)-(q.i+1)<(16)-q.i;omega,?_⟩
      repeat ((conv=>whnf);refine zb ?_)
      conv=>whnf
      exact zo (congrArg (fun x=>SV.agg [SV.arr32 64 x]) (show _=xa s (q.i+1) by rw [z95 h4,←w4 (by omega),hx0,i0,i1,i2,i3];rfl))
     ·have e4:q.i=16:=by omega
      rw [e4]
      clear hwl hx0 hI h4 hi e4 q
      refine za ?_
      refine zt (Ix (48)) (fun q=>⟨[(1,.str s),(2,.ptr 0 0 0 []),(4,.ptr 1 0 0 []),(5,.ptr 2 0 0 []),(6,.ptr 3 0 0 []),(8,.int (16+(q.i:Int)))],[.mk 239 [.arr32 8 H],.mk 239 [.arr32 8 [0,0,0,0,0,0,0,0]],.mk 249 [.arr32 64 K32],.mk 249 [.arr32 64 (xa s (16+q.i))]]⟩) (fun q=>(48)-q.i) ⟨0,Nat.zero_le _⟩ [0,1,2,3] ?_ ?_
      ·exact zn
      ·intro q
       have hi:=q.hi
       have hwl:=zh2 s (16+q.i)
       have hx0:off (yb [] (16+(q.i:Int)).toNat xw.sz)=16+q.i:=by rw [zy];show 0+(16+(q.i:Int)).toNat*1=_;omega
       have hx15:off (yb [] (16+(q.i:Int)-15).toNat xw.sz)=16+q.i-15:=by rw [zy];show 0+(16+(q.i:Int)-15).toNat*1=_;omega
       have hx2:off (yb [] (16+(q.i:Int)-2).toNat xw.sz)=16+q.i-2:=by rw [zy];show 0+(16+(q.i:Int)-2).toNat*1=_;omega
       have hx16:off (yb [] (16+(q.i:Int)-16).toNat xw.sz)=16+q.i-16:=by rw [zy];show 0+(16+(q.i:Int)-16).toNat*1=_;omega
       have hx7:off (yb [] (16+(q.i:Int)-7).toNat xw.sz)=16+q.i-7:=by rw [zy];show 0+(16+(q.i:Int)-7).toNat*1=_;omega
       by_cases h4:q.i<48
       ·refine za ?_
        refine ⟨⟨q.i+1,h4⟩,[0,1,2,3],by show (48)-(q.i+1)<(48)-q.i;omega,?_⟩
        repeat ((conv=>whnf);refine zb ?_)
        conv=>whnf
        exact zo (congrArg (fun x=>SV.agg [SV.arr32 64 x]) (show _=xa s (16+(q.i+1)) by rw [hx0,hx15,hx2,hx16,hx7,show 16+(q.i+1)=16+q.i+1 from rfl,ydx (by omega)];rfl))
       ·have e4:q.i=48:=by omega
        rw [e4] at hwl
        rw [e4]
        obtain ⟨V,hV⟩: ∃V,V=xa s 64:=⟨_,rfl⟩
        rw [show 16+48=64 from rfl,←hV] at hwl
        rw [show 16+48=64 from rfl,←hV]
        clear hx0 hx15 hx2 hx16 hx7 h4 hi e4 q
        refine za ?_
        refine zt (Ix (64)) (fun q=>⟨[(1,.str s),(2,.ptr 0 0 0 []),(4,.ptr 1 0 0 []),(5,.ptr 2 0 0 []),(6,.ptr 3 0 0 []),(11,.ptr 4 0 0 []),(12,.int q.i)],[.mk 239 [.arr32 8 H],.mk 239 [.arr32 8 [0,0,0,0,0,0,0,0]],.mk 249 [.arr32 64 K32],.mk 249 [.arr32 64 V],.mk 239 [.arr32 8 (zck KC V H q.i)]]⟩) (fun q=>(64)-q.i) ⟨0,Nat.zero_le _⟩ [0,1,2,3,4] ?_ ?_
        ·repeat ((conv=>whnf);refine zb ?_)
         conv=>whnf
         exact zo (congrArg (fun x=>SV.agg [SV.arr32 8 x]) (show H=zck KC V H 0 by unfold zck;rfl))
        ·intro q
         have hi:=q.hi
         have hrl:=zrd (k:=KC) (w:=V) hH q.i
         have hx0:off (yb [] ((q.i:Int)).toNat xw.sz)=q.i:=by rw [zy];show 0+((q.i:Int)).toNat*1=_;omega
         by_cases h4:q.i<64
         ·have hk:=yfx q.i h4
          refine za ?_
          conv=>whnf
          refine ⟨⟨q.i+1,h4⟩,[0,1,2,3,4],by show (64)-(q.i+1)<(64)-q.i;omega,?_⟩
          repeat ((conv=>whnf);refine zb ?_)
          conv=>whnf
          exact zo (congrArg (fun x=>SV.agg [SV.arr32 8 x]) (show _=zck KC V H (q.i+1) by rw [yiy,←hk,ycs,hx0];rfl))
         ·have e4:q.i=64:=by omega
          rw [e4] at hrl
          rw [e4]
          obtain ⟨R,hR⟩: ∃R,R=zck KC V H 64:=⟨_,rfl⟩
          rw [←hR] at hrl
          rw [←hR]
          clear hx0 h4 hi e4 q
          refine za ?_
          refine zt (Ix (8)) (fun q=>⟨[(1,.str s),(2,.ptr 0 0 0 []),(4,.ptr 1 0 0 []),(5,.ptr 2 0 0 []),(6,.ptr 3 0 0 []),(11,.ptr 4 0 0 []),(17,.int q.i)],[.mk 239 [.arr32 8 (ovr H 0 (fun i=>g32 H i+g32 R i) q.i)],.mk 239 [.arr32 8 [0,0,0,0,0,0,0,0]],.mk 249 [.arr32 64 K32],.mk 249 [.arr32 64 V],.mk 239 [.arr32 8 R]]⟩) (fun q=>(8)-q.i) ⟨0,Nat.zero_le _⟩ [0,1,2,3,4] ?_ ?_
          ·exact zn
          ·intro q
           have hi:=q.hi
           have hlo:=yg (l:=H) (a:=0) (i:=q.i) (by omega) (fun i=>g32 H i+g32 R i)
           have hI:((q.i:Int)).toNat=q.i:=Int.toNat_natCast _
           by_cases h4:q.i<8
           ·refine za ?_
            refine ⟨⟨q.i+1,h4⟩,[0,1,2,3,4],by show (8)-(q.i+1)<(8)-q.i;omega,?_⟩
            repeat ((conv=>whnf);refine zb ?_)
            conv=>whnf
            refine zv (congrArg (fun x=>SV.agg [SV.arr32 8 x]) (z9 (by omega) ?hv ?hkk)) ?_
            case hkk=>show ((q.i:Int)).toNat=0+q.i;omega
            case hv=>
              show List.getD (ovr H 0 (fun i=>g32 H i+g32 R i) q.i) ((q.i:Int)).toNat 0+List.getD R ((q.i:Int)).toNat 0=_
              rw [yw (by omega) _ (by omega),hI];rfl
            exact zn
           ·have e4:q.i=8:=by omega
            have hfin:ovr H 0 (fun i=>g32 H i+g32 R i) 8=b32 H s:=by
              rw [y4 hH];unfold b32;rw [←hV,←hR]
            rw [e4,hfin]
            refine za ?_
            exact zf [] h
   ·exact h.elim
theorem zu3 (b:List UInt8): ∀i j,i≤j→j<80→(y9 b i).getD j 0=0
  |0,j,_,h=>by unfold y9;rw [List.getD_eq_getElem?_getD,List.getElem?_replicate,if_pos h];rfl
  |i+1,j,h,h2=>by
   have ih:=zu3 b i j (by omega) h2
   by_cases h16:i<16
   ·rw [zxs h16,List.getD_eq_getElem?_getD,List.getElem?_set_ne (by omega),←List.getD_eq_getElem?_getD];exact ih
   ·rw [zxo h16,List.getD_eq_getElem?_getD,List.getElem?_set_ne (by omega),←List.getD_eq_getElem?_getD];exact ih
def zk9:Spec:=fun args hp K=>match args,hp with
  | [.arr64 8 H,.str s],[]=>Pre (H.length=8∧s.length=128) (K (.arr64 8 (zge KC H s)) [])
  |_,_=>False
set_option maxHeartbeats 8000000 in
theorem zy5:zp prog 181 zk9:=by
  refine zm zc6 (zd yci zi) rfl func181 rfl call181 (D:=yjq) ?_ ?_
  ·intro args hp K h
   unfold zk9 at h
   split at h
   ·exact Nat.le_of_ble_eq_true rfl
   ·exact h.elim
  ·intro args hp K h
   unfold zk9 at h
   split at h
   ·rename_i H s
    obtain ⟨⟨hH,hs⟩,h⟩:=zq h
    have hKl:KC.length=80:=zog
    refine za ?_
    refine zt (Ix (16)) (fun q=>⟨[(1,.str s),(2,.ptr 0 0 0 []),(4,.ptr 1 0 0 []),(5,.ptr 2 0 0 []),(6,.ptr 3 0 0 []),(7,.int q.i)],[.mk 242 [.arr64 8 H],.mk 242 [.arr64 8 [0,0,0,0,0,0,0,0]],.mk 245 [.arr64 80 KC],.mk 245 [.arr64 80 (y9 s q.i)]]⟩) (fun q=>(16)-q.i) ⟨0,Nat.zero_le _⟩ [0,1,2,3] ?_ ?_
    ·repeat ((conv=>whnf);refine zb ?_)
     conv=>whnf
     refine zv (congrArg (fun x=>SV.agg [SV.arr64 80 x]) (show _=KC by unfold KC;decide+kernel)) ?_
     repeat ((conv=>whnf);refine zb ?_)
     conv=>whnf
     exact zo (congrArg (fun x=>SV.agg [SV.arr64 80 x]) (show _=y9 s 0 by unfold y9;rfl))
    ·intro q
     have hi:=q.hi
     have hwl:=zh0 s q.i
     have hI:((q.i:Nat):Int).toNat=q.i:=Int.toNat_natCast _
     have hx0:off (yb [] ((q.i:Int)).toNat xj.sz)=q.i:=by rw [zy];show 0+((q.i:Int)).toNat*1=_;omega
     by_cases h4:q.i<16
     ·have hB:((s.drop (8*q.i)).take 8).length=8:=by rw [List.length_take,List.length_drop];omega
      obtain ⟨P,hP⟩: ∃P,P=y9 s q.i:=⟨_,rfl⟩
      have hP0:P.getD q.i 0=0:=by
        rw [hP];exact zu3 s q.i q.i (Nat.le_refl _) (by omega)
      rw [←hP] at hwl
      rw [←hP]
      refine za ?_
      refine zt (Ix (8)) (fun r=>⟨[(1,.str s),(2,.ptr 0 0 0 []),(4,.ptr 1 0 0 []),(5,.ptr 2 0 0 []),(6,.ptr 3 0 0 []),(7,.int q.i),(8,.int r.i)],[.mk 242 [.arr64 8 H],.mk 242 [.arr64 8 [0,0,0,0,0,0,0,0]],.mk 245 [.arr64 80 KC],.mk 245 [.arr64 80 (P.set q.i (zcf ((s.drop (8*q.i)).take 8) r.i))]]⟩) (fun r=>(8)-r.i) ⟨0,Nat.zero_le _⟩ [0,1,2,3] ?_ ?_
      ·repeat ((conv=>whnf);refine zb ?_)
       conv=>whnf
       exact zo (congrArg (fun x=>SV.agg [SV.arr64 80 x]) (show P=P.set q.i (zcf ((s.drop (8*q.i)).take 8) 0) from (by rw [show zcf ((s.drop (8*q.i)).take 8) 0=P.getD q.i 0 by rw [hP0];unfold zcf;rfl,List.getD_eq_getElem?_getD,List.getElem?_eq_getElem (by omega)];exact (List.set_getElem_self _).symm)))
      ·intro r
       have hri:=r.hi
       have hsl:(P.set q.i (zcf ((s.drop (8*q.i)).take 8) r.i)).length=80:=by rw [List.length_set,hwl]
       by_cases h5:r.i<8
       ·have j0:(8*(q.i:Int)+(r.i:Int)).toNat=8*q.i+r.i:=by omega
        refine za ?_
        refine ⟨⟨r.i+1,h5⟩,[0,1,2,3],by show (8)-(r.i+1)<(8)-r.i;omega,?_⟩
        repeat ((conv=>whnf);refine zb ?_)
        conv=>whnf
        exact zo (congrArg (fun x=>SV.agg [SV.arr64 80 x]) (show _=P.set q.i (zcf ((s.drop (8*q.i)).take 8) (r.i+1)) by rw [hx0,List.set_set,List.getD_eq_getElem?_getD,List.getElem?_set_self (by omega),yis,zgy h5,j0];rfl))
       ·have e5:r.i=8:=by omega
        rw [e5]
        refine za ?_
        refine ⟨⟨q.i+1,h4⟩,[0,1,2,3],by show 16-(q.i+1)<16-q.i;omega,?_⟩
        repeat ((conv=>whnf);refine zb ?_)
        conv=>whnf
        exact zo (congrArg (fun x=>SV.agg [SV.arr64 80 x]) (show P.set q.i (zcf ((s.drop (8*q.i)).take 8) 8)=y9 s (q.i+1) by rw [zxs h4,hP];unfold num;rw [hB]))
     ·have e4:q.i=16:=by omega
      rw [e4]
      clear hwl hx0 hI h4 hi e4 q
      refine za ?_
      refine zt (Ix (64)) (fun q=>⟨[(1,.str s),(2,.ptr 0 0 0 []),(4,.ptr 1 0 0 []),(5,.ptr 2 0 0 []),(6,.ptr 3 0 0 []),(9,.int (16+(q.i:Int)))],[.mk 242 [.arr64 8 H],.mk 242 [.arr64 8 [0,0,0,0,0,0,0,0]],.mk 245 [.arr64 80 KC],.mk 245 [.arr64 80 (y9 s (16+q.i))]]⟩) (fun q=>(64)-q.i) ⟨0,Nat.zero_le _⟩ [0,1,2,3] ?_ ?_
      ·exact zn
      ·intro q
       have hi:=q.hi
       have hwl:=zh0 s (16+q.i)
       have hx0:off (yb [] (16+(q.i:Int)).toNat xj.sz)=16+q.i:=by rw [zy];show 0+(16+(q.i:Int)).toNat*1=_;omega
       have hx15:off (yb [] (16+(q.i:Int)-15).toNat xj.sz)=16+q.i-15:=by rw [zy];show 0+(16+(q.i:Int)-15).toNat*1=_;omega
       have hx2:off (yb [] (16+(q.i:Int)-2).toNat xj.sz)=16+q.i-2:=by rw [zy];show 0+(16+(q.i:Int)-2).toNat*1=_;omega
       have hx16:off (yb [] (16+(q.i:Int)-16).toNat xj.sz)=16+q.i-16:=by rw [zy];show 0+(16+(q.i:Int)-16).toNat*1=_;omega
       have hx7:off (yb [] (16+(q.i:Int)-7).toNat xj.sz)=16+q.i-7:=by rw [zy];show 0+(16+(q.i:Int)-7).toNat*1=_;omega
       by_cases h4:q.i<64
       ·refine za ?_
        refine ⟨⟨q.i+1,h4⟩,[0,1,2,3],by show (64)-(q.i+1)<(64)-q.i;omega,?_⟩
        repeat ((conv=>whnf);refine zb ?_)
        conv=>whnf
        exact zo (congrArg (fun x=>SV.agg [SV.arr64 80 x]) (show _=y9 s (16+(q.i+1)) by rw [hx0,hx15,hx2,hx16,hx7,show 16+(q.i+1)=16+q.i+1 from rfl,yfl (by omega)];rfl))
       ·have e4:q.i=64:=by omega
        rw [e4] at hwl
        rw [e4]
        obtain ⟨V,hV⟩: ∃V,V=y9 s 80:=⟨_,rfl⟩
        rw [show 16+64=80 from rfl,←hV] at hwl
        rw [show 16+64=80 from rfl,←hV]
        clear hx0 hx15 hx2 hx16 hx7 h4 hi e4 q
        refine za ?_
        refine zt (Ix (80)) (fun q=>⟨[(1,.str s),(2,.ptr 0 0 0 []),(4,.ptr 1 0 0 []),(5,.ptr 2 0 0 []),(6,.ptr 3 0 0 []),(12,.ptr 4 0 0 []),(13,.int q.i)],[.mk 242 [.arr64 8 H],.mk 242 [.arr64 8 [0,0,0,0,0,0,0,0]],.mk 245 [.arr64 80 KC],.mk 245 [.arr64 80 V],.mk 242 [.arr64 8 (zcq KC V H q.i)]]⟩) (fun q=>(80)-q.i) ⟨0,Nat.zero_le _⟩ [0,1,2,3,4] ?_ ?_
        ·repeat ((conv=>whnf);refine zb ?_)
         conv=>whnf
         exact zo (congrArg (fun x=>SV.agg [SV.arr64 8 x]) (show H=zcq KC V H 0 by unfold zcq;rfl))
        ·intro q
         have hi:=q.hi
         have hrl:=zq7 (k:=KC) (w:=V) hH q.i
         have hx0:off (yb [] ((q.i:Int)).toNat xj.sz)=q.i:=by rw [zy];show 0+((q.i:Int)).toNat*1=_;omega
         by_cases h4:q.i<80
         ·skip
          refine za ?_
          conv=>whnf
          refine ⟨⟨q.i+1,h4⟩,[0,1,2,3,4],by show (80)-(q.i+1)<(80)-q.i;omega,?_⟩
          repeat ((conv=>whnf);refine zb ?_)
          conv=>whnf
          exact zo (congrArg (fun x=>SV.agg [SV.arr64 8 x]) (show _=zcq KC V H (q.i+1) by rw [yhx,ybn,hx0];rfl))
         ·have e4:q.i=80:=by omega
          rw [e4] at hrl
          rw [e4]
          obtain ⟨R,hR⟩: ∃R,R=zcq KC V H 80:=⟨_,rfl⟩
          rw [←hR] at hrl
          rw [←hR]
          clear hx0 h4 hi e4 q
          refine za ?_
          refine zt (Ix (8)) (fun q=>⟨[(1,.str s),(2,.ptr 0 0 0 []),(4,.ptr 1 0 0 []),(5,.ptr 2 0 0 []),(6,.ptr 3 0 0 []),(12,.ptr 4 0 0 []),(18,.int q.i)],[.mk 242 [.arr64 8 (ovr H 0 (fun i=>g64 H i+g64 R i) q.i)],.mk 242 [.arr64 8 [0,0,0,0,0,0,0,0]],.mk 245 [.arr64 80 KC],.mk 245 [.arr64 80 V],.mk 242 [.arr64 8 R]]⟩) (fun q=>(8)-q.i) ⟨0,Nat.zero_le _⟩ [0,1,2,3,4] ?_ ?_
          ·exact zn
          ·intro q
           have hi:=q.hi
           have hlo:=yg (l:=H) (a:=0) (i:=q.i) (by omega) (fun i=>g64 H i+g64 R i)
           have hI:((q.i:Int)).toNat=q.i:=Int.toNat_natCast _
           by_cases h4:q.i<8
           ·refine za ?_
            refine ⟨⟨q.i+1,h4⟩,[0,1,2,3,4],by show (8)-(q.i+1)<(8)-q.i;omega,?_⟩
            repeat ((conv=>whnf);refine zb ?_)
            conv=>whnf
            refine zv (congrArg (fun x=>SV.agg [SV.arr64 8 x]) (z9 (by omega) ?hv ?hkk)) ?_
            case hkk=>show ((q.i:Int)).toNat=0+q.i;omega
            case hv=>
              show List.getD (ovr H 0 (fun i=>g64 H i+g64 R i) q.i) ((q.i:Int)).toNat 0+List.getD R ((q.i:Int)).toNat 0=_
              rw [yw (by omega) _ (by omega),hI];rfl
            exact zn
           ·have e4:q.i=8:=by omega
            have hfin:ovr H 0 (fun i=>g64 H i+g64 R i) 8=zge KC H s:=by
              rw [y4 hH];unfold zge;rw [←hV,←hR]
            rw [e4,hfin]
            refine za ?_
            exact zf [] h
   ·exact h.elim
end Go.Sym.Z

namespace Go.Sym.Z
open Go Go.Proofs.Tryz Go.Sym.Lp Go.Sym.Cha Go.Sym.Sha Go.Sym.Hk Go.Sym.Gcm
set_option maxRecDepth 100000
def yjk:List (Nat×List PStep):= [(4,[⟨0,[]⟩,⟨1,[]⟩,⟨2,[0,1]⟩,⟨3,[0,1,2]⟩,⟨4,[0,1]⟩,⟨5,[0,1]⟩,⟨6,[0,1]⟩,⟨7,[0,1]⟩,⟨8,[]⟩,⟨9,[0,1,2,3,4,5,6,7,8]⟩,⟨10,[0,1,2,3,4,5,6,7,8]⟩,⟨11,[0,1,2,3,4,5,6,7,8]⟩,⟨12,[0,1,2,3,4,5,6,7,8]⟩,⟨13,[]⟩,⟨14,[]⟩])]
def yja:List (Nat×List PStep):= [(8,[⟨0,[]⟩,⟨1,[0]⟩,⟨2,[0,1]⟩,⟨3,[0,1,2]⟩,⟨4,[0,1,2]⟩,⟨5,[0]⟩,⟨6,[]⟩,⟨7,[]⟩]),(21,[⟨0,[]⟩,⟨1,[0]⟩,⟨2,[0,1]⟩,⟨3,[0,1,2]⟩,⟨4,[0,1,2]⟩,⟨5,[0]⟩,⟨6,[]⟩,⟨7,[]⟩]),(26,[⟨0,[]⟩,⟨1,[0]⟩,⟨2,[0]⟩,⟨3,[0]⟩,⟨4,[0]⟩,⟨5,[0]⟩,⟨8,[0,1,2,3,4,5]⟩,⟨9,[0,1,2,3,4,5]⟩,⟨10,[0,1,2,3,4,5]⟩,⟨11,[0,1,2,3,4,5]⟩,⟨12,[0,1,2,3,4,5]⟩,⟨6,[0,8,9,10,11,12]⟩,⟨7,[8,9,10,11,12]⟩,⟨13,[0,7]⟩,⟨14,[]⟩,⟨15,[]⟩])]
def yjn:List (Nat×List PStep):= []
def yg4:List (Nat×List PStep):= []
def yiw:List (Nat×List PStep):= []
def yi7:List (Nat×List PStep):= []
theorem zdg {n:Nat}:List.take n (List.drop (off []) (List.replicate n (0:UInt8)))=List.replicate n 0:=by
  show List.take n (List.drop 0 _)=_;rw [List.drop_zero];exact List.take_of_length_le (Nat.le_of_eq List.length_replicate)
attribute [local irreducible] KC HB x9 zgp zd5 zjz xb b32 zge beB zqg pdX kN
def ztk:Spec:=fun args hp K=>match args,hp with
  | [.str s,.int b,.int z],[]=>Pre (s.length≤281474976710656∧((b=64∧z=8)∨(b=128∧z=16))) (K (.str (zgp (if b=64 then 256 else 384) s)) [])
  |_,_=>False
set_option maxHeartbeats 4000000 in
theorem z9o:zp prog 179 ztk:=by
  refine zm zc6 (zd zvg zi) rfl func179 rfl call179 (D:=yjk) ?_ ?_
  ·intro args hp K h
   unfold ztk at h
   split at h
   ·exact Nat.le_of_ble_eq_true rfl
   ·exact h.elim
  ·intro args hp K h
   unfold ztk at h
   split at h
   ·rename_i s b z
    obtain ⟨⟨hs,hb⟩,hK⟩:=zq h
    clear h
    have h:=hK
    clear hK
    rcases hb with ⟨rfl,rfl⟩|⟨rfl,rfl⟩
    all_goals
      first|rw [if_pos rfl] at h|rw [if_neg (by decide)] at h
    ·obtain ⟨z,hz⟩: ∃z,z=zR 256 s.length:=⟨_,rfl⟩
     have hm0:=Int.emod_nonneg ((s.length:Int)+1+8) (show (64:Int)≠0 by decide)
     have hm1:=Int.emod_lt_of_pos ((s.length:Int)+1+8) (show (0:Int)<64 by decide)
     have hq:((s.length:Int)+1+8).tmod 64=((s.length:Int)+1+8)%64:=Int.tmod_eq_emod_of_nonneg (by omega)
     have hpm:ya (((s.length:Int)+1+8).tmod 64):=by rw [hq];unfold ya;omega
     have hfs:ya (64-((s.length:Int)+1+8).tmod 64):=by rw [hq];unfold ya;omega
     have hzz:zR 256 s.length=(64-(s.length+1+8)%64)%64+8-8:=rfl
     have hbl:=zam (8*(s.length:Int)) (Int.toNat 8)
     have hpR:zgp 256 s=s++ [128]++List.replicate z 0++beB (8*(s.length:Int)) (Int.toNat 8):=by
       unfold zgp
       rw [←hz,List.append_assoc,List.append_assoc,show ((8*s.length:Nat):Int)=8*(s.length:Int) by omega]
       rfl
     rw [hpR] at h
     by_cases he:64-((s.length:Int)+1+8).tmod 64=64
     ·have hzn:((0:Int)+8-8).toNat=z:=by rw [hz,hzz];rw [hq] at he;omega
      have hrl:(List.replicate z (0:UInt8)).length=z:=List.length_replicate
      refine za ?_
      rw [hzn]
      refine za ?_
      rw [zdg]
      refine za ?_
      exact zf [] h
     ·have hzn:(64-((s.length:Int)+1+8).tmod 64+8-8).toNat=z:=by rw [hz,hzz,hq];rw [hq] at he;omega
      have hrl:(List.replicate z (0:UInt8)).length=z:=List.length_replicate
      have hzb:z≤256:=by rw [hz,hzz];omega
      have hpos:0≤64-((s.length:Int)+1+8).tmod 64+8-8∧64-((s.length:Int)+1+8).tmod 64+8-8≤256:=by rw [hq];omega
      refine za ?_
      rw [hzn]
      refine za ?_
      rw [zdg]
      refine za ?_
      exact zf [] h
    ·obtain ⟨z,hz⟩: ∃z,z=zR 384 s.length:=⟨_,rfl⟩
     have hm0:=Int.emod_nonneg ((s.length:Int)+1+16) (show (128:Int)≠0 by decide)
     have hm1:=Int.emod_lt_of_pos ((s.length:Int)+1+16) (show (0:Int)<128 by decide)
     have hq:((s.length:Int)+1+16).tmod 128=((s.length:Int)+1+16)%128:=Int.tmod_eq_emod_of_nonneg (by omega)
     have hpm:ya (((s.length:Int)+1+16).tmod 128):=by rw [hq];unfold ya;omega
     have hfs:ya (128-((s.length:Int)+1+16).tmod 128):=by rw [hq];unfold ya;omega
     have hzz:zR 384 s.length=(128-(s.length+1+16)%128)%128+16-8:=rfl
     have hbl:=zam (8*(s.length:Int)) (Int.toNat 8)
     have hpR:zgp 384 s=s++ [128]++List.replicate z 0++beB (8*(s.length:Int)) (Int.toNat 8):=by
       unfold zgp
       rw [←hz,List.append_assoc,List.append_assoc,show ((8*s.length:Nat):Int)=8*(s.length:Int) by omega]
       rfl
     rw [hpR] at h
     by_cases he:128-((s.length:Int)+1+16).tmod 128=128
     ·have hzn:((0:Int)+16-8).toNat=z:=by rw [hz,hzz];rw [hq] at he;omega
      have hrl:(List.replicate z (0:UInt8)).length=z:=List.length_replicate
      refine za ?_
      rw [hzn]
      refine za ?_
      rw [zdg]
      refine za ?_
      exact zf [] h
     ·have hzn:(128-((s.length:Int)+1+16).tmod 128+16-8).toNat=z:=by rw [hz,hzz,hq];rw [hq] at he;omega
      have hrl:(List.replicate z (0:UInt8)).length=z:=List.length_replicate
      have hzb:z≤256:=by rw [hz,hzz];omega
      have hpos:0≤128-((s.length:Int)+1+16).tmod 128+16-8∧128-((s.length:Int)+1+16).tmod 128+16-8≤256:=by rw [hq];omega
      refine za ?_
      rw [hzn]
      refine za ?_
      rw [zdg]
      refine za ?_
      exact zf [] h
   ·exact h.elim
def z9c:Spec:=fun args hp K=>match args,hp with
  | [.int n,.str s],[]=>Pre (s.length≤281474976710656) (ye (decide (n=256∨n=384)) (K (.tup [.str (x9 n s),.int 0]) []) (K (.tup [.str [],.int 200]) []))
  |_,_=>False
set_option maxHeartbeats 8000000 in
theorem yew:zp prog 169 z9c:=by
  refine zm zc6 (zd z9o (zd zyr (zd zy5 (zd zvg zi)))) rfl func169 rfl call169 (D:=yja) ?_ ?_
  ·intro args hp K h
   unfold z9c at h
   split at h
   ·exact Nat.le_of_ble_eq_true rfl
   ·exact h.elim
  ·intro args hp K h
   unfold z9c at h
   split at h
   ·rename_i n s
    obtain ⟨hs,h⟩:=zq h
    obtain ⟨ht,hf⟩:=z8 h
    have zre:n=256∨n=384∨(n≠256∧n≠384):=by omega
    clear h
    rcases zre with e|e|⟨e1,e2⟩
    ·have h:=ht (decide_eq_true (.inl e))
     subst e
     have hF:=z2z (s:=s) (by omega)
     obtain ⟨hp1,hp2,hp3⟩:=zwg (n:=256) s
     have hpm:(s.length≤281474976710656∧((64:Int)=64∧(8:Int)=8∨(64:Int)=128∧(8:Int)=16)):=⟨hs,by decide⟩
     obtain ⟨P,hP⟩: ∃P,P=zgp 256 s:=⟨_,rfl⟩
     rw [←hP] at hF hp1 hp2 hp3
     have hb256:bk 256=64:=rfl
     rw [hb256] at hp1
     obtain ⟨N,hN⟩: ∃N,P.length=64*N:=⟨P.length/ 64,by omega⟩
     have hNd:P.length/ 64=N:=by omega
     rw [hNd] at hF
     rw [hF] at h
     refine za ?_
     rw [if_pos rfl,←hP]
     refine za ?_
     refine zt (Ix (N)) (fun q=>⟨[(6,.ptr 0 0 0 []),(7,.str P),(8,.int (64*(q.i:Int)))],[.mk 239 [.arr32 8 (zjz H32 P q.i)]]⟩) (fun q=>(N)-q.i) ⟨0,Nat.zero_le _⟩ [0] ?_ ?_
     ·repeat ((conv=>whnf);refine zb ?_)
      conv=>whnf
      exact zo (congrArg (fun x=>SV.agg [SV.arr32 8 x]) (show _=(zjz H32 P 0) by unfold zjz H32;decide+kernel))
     ·intro q
      have hi:=q.hi
      have hvl:(zjz H32 P q.i).length=8:=zwq rfl P q.i
      have hc1:(64*(q.i:Int)).toNat=64*q.i:=by omega
      have hc2:(64*(q.i:Int)+64).toNat-(64*(q.i:Int)).toNat=64:=by omega
      by_cases h4:q.i<N
      ·have hlt:q.i+1≤N:=h4
       have hpb:(zjz H32 P q.i).length=8∧(List.take ((64*(q.i:Int)+64).toNat-(64*(q.i:Int)).toNat) (List.drop (64*(q.i:Int)).toNat P)).length=64:=⟨hvl,by rw [hc2,List.length_take,List.length_drop,hc1];omega⟩
       have hmul:64*(q.i+1)≤64*N:=Nat.mul_le_mul_left _ hlt
       refine za ?_
       conv=>whnf
       refine ⟨⟨q.i+1,h4⟩,[0],by show (N)-(q.i+1)<(N)-q.i;omega,?_⟩
       repeat ((conv=>whnf);refine zb ?_)
       conv=>whnf
       exact zo (congrArg (fun x=>SV.agg [SV.arr32 8 x]) (show _=(zjz H32 P (q.i+1)) by rw [hc2,hc1];simp only [zjz]))
      ·have e4:q.i=N:=by omega
       rw [e4] at hvl
       rw [e4]
       obtain ⟨V,hV⟩: ∃V,V=(zjz H32 P N):=⟨_,rfl⟩
       rw [←hV] at hvl h
       rw [←hV]
       clear hc1 hc2 h4 hi e4 q
       obtain ⟨W,hW⟩: ∃W,W=V.map UInt32.toUInt64:=⟨_,rfl⟩
       rw [←hW] at h
       refine za ?_
       refine zt (Ix (8)) (fun q=>⟨[(6,.ptr 0 0 0 []),(9,.str (zd5 W 4 q.i)),(10,.int (q.i:Int))],[.mk 239 [.arr32 8 V]]⟩) (fun q=>(8)-q.i) ⟨0,Nat.zero_le _⟩ [0] ?_ ?_
       ·repeat ((conv=>whnf);refine zb ?_)
        conv=>whnf
        exact zo (congrArg SV.str (show []=zd5 W 4 0 by unfold zd5;rfl))
       ·intro q
        have hi:=q.hi
        have hI:((q.i:Nat):Int).toNat=q.i:=Int.toNat_natCast _
        have hx0:off (yb [] ((q.i:Nat):Int).toNat xw.sz)=q.i:=by rw [zy];show 0+((q.i:Int)).toNat*1=_;omega
        have hol:(zd5 W 4 q.i).length=4*q.i:=by unfold zd5;exact zz _ _
        by_cases h4:q.i<8
        ·have hgx:g64 W q.i=(V.getD q.i 0).toUInt64:=by
           rw [hW];unfold g64;rw [List.getD_eq_getElem?_getD,List.getElem?_map,List.getD_eq_getElem?_getD,List.getElem?_eq_getElem (by omega)];rfl
         have hb1:=(V.getD (off (yb [] ((q.i:Nat):Int).toNat xw.sz)) 0).toNat_lt
         have hbl:=zam (((V.getD (off (yb [] ((q.i:Nat):Int).toNat xw.sz)) 0).toNat:Nat):Int) (Int.toNat 4)
         refine za ?_
         conv=>whnf
         refine ⟨⟨q.i+1,h4⟩,[0],by show (8)-(q.i+1)<(8)-q.i;omega,?_⟩
         repeat ((conv=>whnf);refine zb ?_)
         conv=>whnf
         exact zo (congrArg SV.str (show _=zd5 W 4 (q.i+1) by rw [z78 (by decide),hgx,be4,hx0];rfl))
        ·have e4:q.i=8:=by omega
         rw [e4]
         refine za ?_
         conv=>whnf
         exact zf [] h
    ·have h:=ht (decide_eq_true (.inr e))
     subst e
     have hF:=z35 (s:=s) (by omega)
     obtain ⟨hp1,hp2,hp3⟩:=zwg (n:=384) s
     have hpm:(s.length≤281474976710656∧((128:Int)=64∧(16:Int)=8∨(128:Int)=128∧(16:Int)=16)):=⟨hs,by decide⟩
     obtain ⟨P,hP⟩: ∃P,P=zgp 384 s:=⟨_,rfl⟩
     rw [←hP] at hF hp1 hp2 hp3
     have hb384:bk 384=128:=rfl
     rw [hb384] at hp1
     obtain ⟨N,hN⟩: ∃N,P.length=128*N:=⟨P.length/ 128,by omega⟩
     have hNd:P.length/ 128=N:=by omega
     rw [hNd] at hF
     rw [hF] at h
     refine za ?_
     rw [if_neg (by decide),←hP]
     refine za ?_
     refine zt (Ix (N)) (fun q=>⟨[(11,.ptr 0 0 0 []),(12,.str P),(13,.int (128*(q.i:Int)))],[.mk 242 [.arr64 8 (xb 384 KC (HB 384) P q.i)]]⟩) (fun q=>(N)-q.i) ⟨0,Nat.zero_le _⟩ [0] ?_ ?_
     ·repeat ((conv=>whnf);refine zb ?_)
      conv=>whnf
      exact zo (congrArg (fun x=>SV.agg [SV.arr64 8 x]) (show _=(xb 384 KC (HB 384) P 0) by unfold xb HB;decide+kernel))
     ·intro q
      have hi:=q.hi
      have hvl:(xb 384 KC (HB 384) P q.i).length=8:=zfj (zn2 384) P q.i
      have hc1:(128*(q.i:Int)).toNat=128*q.i:=by omega
      have hc2:(128*(q.i:Int)+128).toNat-(128*(q.i:Int)).toNat=128:=by omega
      by_cases h4:q.i<N
      ·have hlt:q.i+1≤N:=h4
       have hpb:(xb 384 KC (HB 384) P q.i).length=8∧(List.take ((128*(q.i:Int)+128).toNat-(128*(q.i:Int)).toNat) (List.drop (128*(q.i:Int)).toNat P)).length=128:=⟨hvl,by rw [hc2,List.length_take,List.length_drop,hc1];omega⟩
       have hmul:128*(q.i+1)≤128*N:=Nat.mul_le_mul_left _ hlt
       refine za ?_
       conv=>whnf
       refine ⟨⟨q.i+1,h4⟩,[0],by show (N)-(q.i+1)<(N)-q.i;omega,?_⟩
       repeat ((conv=>whnf);refine zb ?_)
       conv=>whnf
       exact zo (congrArg (fun x=>SV.agg [SV.arr64 8 x]) (show _=(xb 384 KC (HB 384) P (q.i+1)) by rw [hc2,hc1];simp only [xb,za1];rw [if_neg (by decide)];rfl))
      ·have e4:q.i=N:=by omega
       rw [e4] at hvl
       rw [e4]
       obtain ⟨V,hV⟩: ∃V,V=(xb 384 KC (HB 384) P N):=⟨_,rfl⟩
       rw [←hV] at hvl h
       rw [←hV]
       clear hc1 hc2 h4 hi e4 q
       obtain ⟨W,hW⟩: ∃W,W=V:=⟨_,rfl⟩
       rw [←hW] at h
       refine za ?_
       refine zt (Ix (6)) (fun q=>⟨[(11,.ptr 0 0 0 []),(14,.str (zd5 W 8 q.i)),(15,.int (q.i:Int))],[.mk 242 [.arr64 8 V]]⟩) (fun q=>(6)-q.i) ⟨0,Nat.zero_le _⟩ [0] ?_ ?_
       ·repeat ((conv=>whnf);refine zb ?_)
        conv=>whnf
        exact zo (congrArg SV.str (show []=zd5 W 8 0 by unfold zd5;rfl))
       ·intro q
        have hi:=q.hi
        have hI:((q.i:Nat):Int).toNat=q.i:=Int.toNat_natCast _
        have hx0:off (yb [] ((q.i:Nat):Int).toNat xj.sz)=q.i:=by rw [zy];show 0+((q.i:Int)).toNat*1=_;omega
        have hol:(zd5 W 8 q.i).length=8*q.i:=by unfold zd5;exact zz _ _
        by_cases h4:q.i<6
        ·have hgx:g64 W q.i=V.getD q.i 0:=by
           rw [hW];rfl
         obtain ⟨x,hx⟩: ∃x,x=V.getD (off (yb [] ((q.i:Nat):Int).toNat xj.sz)) 0:=⟨_,rfl⟩
         have hxl:=x.toNat_lt
         have hb0:(x>>>32).toNat<4294967296:=by
           rw [show (x>>>32).toNat=x.toNat/ 2^32 from zj6 _ (k:=32) (by decide)];omega
         have hb1:(x>>>UInt64.ofNat (UInt64.ofNat 32).toNat).toNat<9223372036854775808:=Nat.lt_trans hb0 (by decide)
         have hb2:(x&&&UInt64.ofNat 4294967295).toNat<9223372036854775808:=by
           rw [UInt64.toNat_and];exact Nat.lt_of_le_of_lt Nat.and_le_right (by decide)
         have hp1:0≤(((x>>>UInt64.ofNat (UInt64.ofNat 32).toNat).toNat:Nat):Int)∧(((x>>>UInt64.ofNat (UInt64.ofNat 32).toNat).toNat:Nat):Int)<9223372036854775808∧0≤(4:Int)∧(4:Int)≤64:=⟨by omega,by omega,by decide,by decide⟩
         have hp2:0≤(((x&&&UInt64.ofNat 4294967295).toNat:Nat):Int)∧(((x&&&UInt64.ofNat 4294967295).toNat:Nat):Int)<9223372036854775808∧0≤(4:Int)∧(4:Int)≤64:=⟨by omega,by omega,by decide,by decide⟩
         have hbl:=zam (((x>>>UInt64.ofNat (UInt64.ofNat 32).toNat).toNat:Nat):Int) (Int.toNat 4)
         have hbl2:=zam (((x&&&UInt64.ofNat 4294967295).toNat:Nat):Int) (Int.toNat 4)
         rw [hx] at hb1 hb2 hp1 hp2 hbl hbl2
         have hq1:(zd5 W 8 q.i).length+(beB (((V.getD (off (yb [] ((q.i:Nat):Int).toNat xj.sz)) 0>>>UInt64.ofNat (UInt64.ofNat 32).toNat).toNat:Nat):Int) (Int.toNat 4)).length<9223372036854775808:=by omega
         have hq2:(zd5 W 8 q.i++beB (((V.getD (off (yb [] ((q.i:Nat):Int).toNat xj.sz)) 0>>>UInt64.ofNat (UInt64.ofNat 32).toNat).toNat:Nat):Int) (Int.toNat 4)).length+(beB (((V.getD (off (yb [] ((q.i:Nat):Int).toNat xj.sz)) 0&&&UInt64.ofNat 4294967295).toNat:Nat):Int) (Int.toNat 4)).length<9223372036854775808:=by rw [List.length_append];omega
         refine za ?_
         conv=>whnf
         refine ⟨⟨q.i+1,h4⟩,[0],by show (6)-(q.i+1)<(6)-q.i;omega,?_⟩
         repeat ((conv=>whnf);refine zb ?_)
         conv=>whnf
         exact zo (congrArg SV.str (show _=zd5 W 8 (q.i+1) by rw [z78 (by decide),hgx,ylv,hx0];rw [List.append_assoc];rfl))
        ·have e4:q.i=6:=by omega
         rw [e4]
         refine za ?_
         conv=>whnf
         exact zf [] h
    ·have h:=hf (decide_eq_false (by omega))
     refine za ?_
     exact zf [] h
   ·exact h.elim
end Go.Sym.Z

namespace Go.Sym.Z
open Go Go.Proofs.Tryz Go.Sym.Lp Go.Sym.Cha Go.Sym.Sha Go.Sym.Hk Go.Sym.Gcm
set_option maxRecDepth 100000
attribute [local irreducible] KC HB x9 zgp zd5 zjz xb b32 zge beB zqg pdX kN
def z96:Spec:=fun args hp K=>match args,hp with
  | [.int n,.str s],[]=>Pre (s.length≤281474976710656∧(n=256∨n=384)) (K (.str (x9 n s)) [])
  |_,_=>False
theorem ygn:zp prog 152 z96:=by
  refine zm zc6 (zd yew zi) rfl func152 rfl call152 (D:=yjn) ?_ ?_
  ·intro args hp K h
   unfold z96 at h
   split at h
   ·exact Nat.le_of_ble_eq_true rfl
   ·exact h.elim
  ·intro args hp K h
   unfold z96 at h
   split at h
   ·rename_i n s
    obtain ⟨⟨hs,hn⟩,h⟩:=zq h
    have hd:=decide_eq_true hn
    repeat ((conv=>whnf);first|refine zu ?_|refine zg ?_|refine zh ?_|refine zb ?_|refine zr (by first|exact hd) ?_|refine zj (by first|exact hd) ?_|refine zk (by first|exact hd) ?_)
    conv=>whnf
    exact zf [] h
   ·exact h.elim
def yd5:Spec:=fun args hp K=>match args,hp with
  | [.int n],[]=>K (.bool (decide (n=256∨n=384))) []
  |_,_=>False
theorem yel:zp prog 122 yd5:=by
  refine zm zc6 zi rfl func122 rfl call122 (D:=yiw) ?_ ?_
  ·intro args hp K h
   unfold yd5 at h
   split at h
   ·exact Nat.le_of_ble_eq_true rfl
   ·exact h.elim
  ·intro args hp K h
   unfold yd5 at h
   split at h
   ·rename_i n
    have zre:n=256∨n=384∨(n≠256∧n≠384):=by omega
    rcases zre with e|e|⟨e1,e2⟩
    ·rw [decide_eq_true (.inl e)] at h
     refine za ?_
     exact zf [] h
    ·rw [decide_eq_true (.inr e)] at h
     refine za ?_
     refine yu (hp':= []) [] h ?_
     repeat ((conv=>whnf);refine zb ?_)
     conv=>whnf
     exact zo (congrArg SV.bool (decide_eq_true e))
    ·rw [decide_eq_false (by omega)] at h
     refine za ?_
     refine yu (hp':= []) [] h ?_
     repeat ((conv=>whnf);refine zb ?_)
     conv=>whnf
     exact zo (congrArg SV.bool (decide_eq_false e2))
   ·exact h.elim
def zem (s:List UInt8) (b:UInt8) (n i:Nat):List UInt8:=(List.range n).map fun j=>if j<i then s.getD j 0^^^b else 0
theorem z2t (s:List UInt8) (b:UInt8) (n i:Nat):(zem s b n i).length=n:=zz _ _
theorem zr5 {s:List UInt8} {n i:Nat} (hn:i<n) (b:UInt8):(zem s b n i).set i (s.getD i 0^^^b)=zem s b n (i+1):=by
  unfold zem
  apply List.ext_getElem?
  intro j
  rw [List.getElem?_set,List.getElem?_map,List.getElem?_map]
  by_cases hij:i=j
  ·subst hij
   rw [if_pos rfl,if_pos (by simp;omega),List.getElem?_range hn,Option.map_some,if_pos (by omega)]
  ·rw [if_neg hij]
   by_cases hj:j<n
   ·rw [List.getElem?_range hj,Option.map_some,Option.map_some]
    by_cases h2:j<i
    ·rw [if_pos h2,if_pos (by omega)]
    ·rw [if_neg h2,if_neg (by omega)]
   ·rw [List.getElem?_eq_none (by simp;omega)];rfl
theorem z25 {s:List UInt8} {n i:Nat} (hs: ¬i<s.length) (hn:i<n) (b:UInt8):(zem s b n i).set i b=zem s b n (i+1):=by
  have z:s.getD i 0=0:=by rw [List.getD_eq_getElem?_getD,List.getElem?_eq_none (by omega)];rfl
  have:=zr5 (s:=s) hn b
  rw [z,UInt8.zero_xor] at this
  exact this
theorem yan (s:List UInt8) (b:UInt8) (n:Nat):zem s b n 0=List.replicate n 0:=by
  unfold zem
  rw [yo (g':=fun _=>0) fun i hi=>if_neg (by omega),List.map_const',List.length_range]
theorem yas (s:List UInt8) (b:UInt8) (n:Nat):zem s b n n=pdX n s b:=by
  unfold zem
  rw [yo (g':=fun i=>s.getD i 0^^^b) fun i hi=>if_pos hi]
  unfold pdX;rfl
attribute [local irreducible] zem
def zxa:Spec:=fun args hp K=>match args,hp with
  | [.str s,.u8 b,.int n],[]=>Pre (0≤n∧n≤1000) (K (.str (pdX n.toNat s b)) [])
  |_,_=>False
set_option maxHeartbeats 4000000 in
theorem yaf:zp prog 153 zxa:=by
  refine zm zc6 zi rfl func153 rfl call153 (D:=yg4) ?_ ?_
  ·intro args hp K h
   unfold zxa at h
   split at h
   ·exact Nat.le_of_ble_eq_true rfl
   ·exact h.elim
  ·intro args hp K h
   unfold zxa at h
   split at h
   ·rename_i s b n
    obtain ⟨⟨h0,h1⟩,h⟩:=zq h
    obtain ⟨z,rfl⟩:=Int.eq_ofNat_of_zero_le h0
    rw [Int.toNat_natCast] at h
    have hzz:((z:Nat):Int).toNat=z:=Int.toNat_natCast _
    refine za ?_
    refine zt (Ix (z)) (fun q=>⟨[(0,.str s),(1,.u8 b),(2,.int z),(7,.sl 0 0 0 [] z z),(8,.int (q.i:Int))],[.mk 5 [.arr8 z (zem s b z q.i)]]⟩) (fun q=>(z)-q.i) ⟨0,Nat.zero_le _⟩ [0] ?_ ?_
    ·repeat ((conv=>whnf);refine zb ?_)
     conv=>whnf
     exact zo (congrArg (fun x=>SV.agg [SV.arr8 z x]) (yan s b z).symm)
    ·intro q
     have hi:=q.hi
     have hl:=z2t s b z q.i
     have hI:((q.i:Nat):Int).toNat=q.i:=Int.toNat_natCast _
     have hx0:off (yb [] ((q.i:Nat):Int).toNat ty5.sz)=q.i:=by rw [zy];show 0+((q.i:Int)).toNat*1=_;omega
     by_cases h4:q.i<z
     ·by_cases h5:q.i<s.length
      ·refine za ?_
       conv=>whnf
       refine ⟨⟨q.i+1,h4⟩,[0],by show (z)-(q.i+1)<(z)-q.i;omega,?_⟩
       repeat ((conv=>whnf);refine zb ?_)
       conv=>whnf
       exact zo (congrArg (fun x=>SV.agg [SV.arr8 z x]) (show _=zem s b z (q.i+1) by rw [hx0,hI,List.set_set];exact zr5 h4 b))
      ·refine za ?_
       conv=>whnf
       refine ⟨⟨q.i+1,h4⟩,[0],by show (z)-(q.i+1)<(z)-q.i;omega,?_⟩
       repeat ((conv=>whnf);refine zb ?_)
       conv=>whnf
       exact zo (congrArg (fun x=>SV.agg [SV.arr8 z x]) (show _=zem s b z (q.i+1) by rw [hx0];exact z25 h5 h4 b))
     ·have e4:q.i=z:=by omega
      have hpl:(pdX z s b).length=z:=za4 z s b
      have hT:List.take z (List.drop (off []) (pdX z s b))=pdX z s b:=by
        show List.take z (List.drop 0 _)=_;rw [List.drop_zero];exact List.take_of_length_le (Nat.le_of_eq hpl)
      rw [e4,yas]
      refine za ?_
      rw [hT]
      conv=>whnf
      exact zf [] h
   ·exact h.elim
def ye9:Spec:=fun args hp K=>match args,hp with
  | [.int n,.str key,.str s],[]=>Pre ((n=256∨n=384)∧key.length≤140737488351232∧s.length≤140737488351232) (K (.str (zqg n key s)) [])
  |_,_=>False
set_option maxHeartbeats 4000000 in
theorem ykk:zp prog 123 ye9:=by
  refine zm zc6 (zd ygn (zd yaf zi)) rfl func123 rfl call123 (D:=yi7) ?_ ?_
  ·intro args hp K h
   unfold ye9 at h
   split at h
   ·exact Nat.le_of_ble_eq_true rfl
   ·exact h.elim
  ·intro args hp K h
   unfold ye9 at h
   split at h
   ·rename_i n key s
    obtain ⟨⟨hn,hk,hs⟩,hh0⟩:=zq h
    clear h
    have h:=hh0
    clear hh0
    rw [z91 key s (by omega) hn] at h
    have hh: ∀x,(x9 n x).length=dl n:=fun x=>zn8 hn x
    have hdl:dl n≤48:=by unfold dl;split<;>decide
    have p54:=za4 (bk n) (kN n key) 54
    have p92:=za4 (bk n) (kN n key) 92
    have hbk:bk n≤128:=by rcases zxz n with e|e<;>omega
    have g1:(pdX (bk n) (kN n key) 54++s).length≤281474976710656∧(n=256∨n=384):=⟨by rw [List.length_append,p54];omega,hn⟩
    have g2:(pdX (bk n) (kN n key) 92++x9 n (pdX (bk n) (kN n key) 54++s)).length≤281474976710656∧(n=256∨n=384):=⟨by rw [List.length_append,p92,hh];omega,hn⟩
    have g3:(pdX (bk n) (kN n key) 54).length+s.length<9223372036854775808:=by omega
    have g4:(pdX (bk n) (kN n key) 92).length+(x9 n (pdX (bk n) (kN n key) 54++s)).length<9223372036854775808:=by rw [hh];omega
    have hkl:key.length≤281474976710656∧(n=256∨n=384):=⟨by omega,hn⟩
    rcases hn with e|e
    ·subst e
     rw [show bk 256=64 from rfl] at g1 g2 g3 g4 h
     by_cases hb:64<key.length
     ·have hkn:kN 256 key=x9 256 key:=by unfold kN;exact if_pos hb
      rw [hkn] at g1 g2 g3 g4 h
      have k1:((pdX (Int.toNat 64) (x9 256 key) (UInt8.ofNat 54))++s).length≤281474976710656∧((256:Int)=256∨(256:Int)=384):=g1
      have k2:((pdX (Int.toNat 64) (x9 256 key) (UInt8.ofNat 92))++x9 256 ((pdX (Int.toNat 64) (x9 256 key) (UInt8.ofNat 54))++s)).length≤281474976710656∧((256:Int)=256∨(256:Int)=384):=g2
      have k3:(pdX (Int.toNat 64) (x9 256 key) (UInt8.ofNat 54)).length+s.length<9223372036854775808:=g3
      have k4:(pdX (Int.toNat 64) (x9 256 key) (UInt8.ofNat 92)).length+(x9 256 ((pdX (Int.toNat 64) (x9 256 key) (UInt8.ofNat 54))++s)).length<9223372036854775808:=g4
      refine za ?_
      conv=>whnf
      exact zf [] h
     ·have hkn:kN 256 key=key:=by unfold kN;exact if_neg hb
      rw [hkn] at g1 g2 g3 g4 h
      have k1:((pdX (Int.toNat 64) key (UInt8.ofNat 54))++s).length≤281474976710656∧((256:Int)=256∨(256:Int)=384):=g1
      have k2:((pdX (Int.toNat 64) key (UInt8.ofNat 92))++x9 256 ((pdX (Int.toNat 64) key (UInt8.ofNat 54))++s)).length≤281474976710656∧((256:Int)=256∨(256:Int)=384):=g2
      have k3:(pdX (Int.toNat 64) key (UInt8.ofNat 54)).length+s.length<9223372036854775808:=g3
      have k4:(pdX (Int.toNat 64) key (UInt8.ofNat 92)).length+(x9 256 ((pdX (Int.toNat 64) key (UInt8.ofNat 54))++s)).length<9223372036854775808:=g4
      refine za ?_
      conv=>whnf
      exact zf [] h
    ·subst e
     rw [show bk 384=128 from rfl] at g1 g2 g3 g4 h
     by_cases hb:128<key.length
     ·have hkn:kN 384 key=x9 384 key:=by unfold kN;exact if_pos hb
      rw [hkn] at g1 g2 g3 g4 h
      have k1:((pdX (Int.toNat 128) (x9 384 key) (UInt8.ofNat 54))++s).length≤281474976710656∧((384:Int)=256∨(384:Int)=384):=g1
      have k2:((pdX (Int.toNat 128) (x9 384 key) (UInt8.ofNat 92))++x9 384 ((pdX (Int.toNat 128) (x9 384 key) (UInt8.ofNat 54))++s)).length≤281474976710656∧((384:Int)=256∨(384:Int)=384):=g2
      have k3:(pdX (Int.toNat 128) (x9 384 key) (UInt8.ofNat 54)).length+s.length<9223372036854775808:=g3
      have k4:(pdX (Int.toNat 128) (x9 384 key) (UInt8.ofNat 92)).length+(x9 384 ((pdX (Int.toNat 128) (x9 384 key) (UInt8.ofNat 54))++s)).length<9223372036854775808:=g4
      refine za ?_
      conv=>whnf
      exact zf [] h
     ·have hkn:kN 384 key=key:=by unfold kN;exact if_neg hb
      rw [hkn] at g1 g2 g3 g4 h
      have k1:((pdX (Int.toNat 128) key (UInt8.ofNat 54))++s).length≤281474976710656∧((384:Int)=256∨(384:Int)=384):=g1
      have k2:((pdX (Int.toNat 128) key (UInt8.ofNat 92))++x9 384 ((pdX (Int.toNat 128) key (UInt8.ofNat 54))++s)).length≤281474976710656∧((384:Int)=256∨(384:Int)=384):=g2
      have k3:(pdX (Int.toNat 128) key (UInt8.ofNat 54)).length+s.length<9223372036854775808:=g3
      have k4:(pdX (Int.toNat 128) key (UInt8.ofNat 92)).length+(x9 384 ((pdX (Int.toNat 128) key (UInt8.ofNat 54))++s)).length<9223372036854775808:=g4
      refine za ?_
      conv=>whnf
      exact zf [] h
   ·exact h.elim
end Go.Sym.Z
