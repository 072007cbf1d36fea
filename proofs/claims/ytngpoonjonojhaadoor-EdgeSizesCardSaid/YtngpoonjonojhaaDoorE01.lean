/- The data of the program as Lean structures; plain, no program. -/

set_option linter.all false
namespace Go.Proofs.YtngpoonjonojhaaDoor
structure Sp where
  a : Int
  b : Int
structure Rect where
  x : Sp
  y : Sp
structure Box where
  x : Sp
  y : Sp
  z : Sp
structure Sec where
  low : Int
  rows : (List Sp)
structure Slc where
  len : Int
  sec : Sec
structure Dft where
  kind : Int
  box : Box
structure Prod where
  name : ByteArray
  thick : Int
  width : Int
  allow : Int
  wane : Int
  lengths : (List Int)
  prices : (List Int)
structure Prt where
  z : Sp
  sec : Sec
structure Nd where
  kind : Int
  pos : Int
structure Pc where
  size : Int
  pos : Int
structure Ch where
  piece : Pc
  value : Int
def zSp : Sp := ⟨(0 : Int), (0 : Int)⟩
def zRect : Rect := ⟨zSp, zSp⟩
def zBox : Box := ⟨zSp, zSp, zSp⟩
def zSec : Sec := ⟨(0 : Int), ([] : List Sp)⟩
def zSlc : Slc := ⟨(0 : Int), zSec⟩
def zDft : Dft := ⟨(0 : Int), zBox⟩
def zProd : Prod := ⟨(⟨#[]⟩ : ByteArray), (0 : Int), (0 : Int), (0 : Int), (0 : Int), ([] : List Int), ([] : List Int)⟩
def zPrt : Prt := ⟨zSp, zSec⟩
def zNd : Nd := ⟨(0 : Int), (0 : Int)⟩
def zPc : Pc := ⟨(0 : Int), (0 : Int)⟩
def zCh : Ch := ⟨zPc, (0 : Int)⟩
def rd_L2 (xs : List (List Int)) (i : Int) : (List Int) := xs.getD i.toNat ([] : List Int)
def rd_L3 (xs : List (List (List Int))) (i : Int) : (List (List Int)) := xs.getD i.toNat ([] : List (List Int))
def rd_Sp (xs : List Sp) (i : Int) : Sp := xs.getD i.toNat zSp
def rd_L5 (xs : List (List Sp)) (i : Int) : (List Sp) := xs.getD i.toNat ([] : List Sp)
def rd_Rect (xs : List Rect) (i : Int) : Rect := xs.getD i.toNat zRect
def rd_Box (xs : List Box) (i : Int) : Box := xs.getD i.toNat zBox
def rd_Sec (xs : List Sec) (i : Int) : Sec := xs.getD i.toNat zSec
def rd_Slc (xs : List Slc) (i : Int) : Slc := xs.getD i.toNat zSlc
def rd_L10 (xs : List (List Slc)) (i : Int) : (List Slc) := xs.getD i.toNat ([] : List Slc)
def rd_Dft (xs : List Dft) (i : Int) : Dft := xs.getD i.toNat zDft
def rd_L12 (xs : List (List Dft)) (i : Int) : (List Dft) := xs.getD i.toNat ([] : List Dft)
def rd_Prod (xs : List Prod) (i : Int) : Prod := xs.getD i.toNat zProd
def rd_L14 (xs : List (List Prod)) (i : Int) : (List Prod) := xs.getD i.toNat ([] : List Prod)
def rd_Prt (xs : List Prt) (i : Int) : Prt := xs.getD i.toNat zPrt
def rd_L16 (xs : List (List Prt)) (i : Int) : (List Prt) := xs.getD i.toNat ([] : List Prt)
def rd_Nd (xs : List Nd) (i : Int) : Nd := xs.getD i.toNat zNd
def rd_L18 (xs : List (List Nd)) (i : Int) : (List Nd) := xs.getD i.toNat ([] : List Nd)
def rd_L19 (xs : List (List (List Nd))) (i : Int) : (List (List Nd)) := xs.getD i.toNat ([] : List (List Nd))
def rd_Pc (xs : List Pc) (i : Int) : Pc := xs.getD i.toNat zPc
def rd_L21 (xs : List (List Pc)) (i : Int) : (List Pc) := xs.getD i.toNat ([] : List Pc)
def rd_Ch (xs : List Ch) (i : Int) : Ch := xs.getD i.toNat zCh
def rd_L23 (xs : List (List Ch)) (i : Int) : (List Ch) := xs.getD i.toNat ([] : List Ch)

end Go.Proofs.YtngpoonjonojhaaDoor
