import Derived.Test.YtcnlmelpnflhnaaGreatVl
import Derived.Test.YtcnlmelpnflhnaaGreatProg
import Derived.KernelRfl
namespace Go
theorem zo {p:Prop} (h:p:=by omega):p:=h
theorem zd {p:Prop} (h:p:=by decide):p:=h
theorem zk {p:Prop} (h:p:=by kernel_rfl):p:=h
end Go
namespace Go.Proofs.YtcnlmelpnflhnaaGreat
open Go.Eng Go.Vx
set_option linter.unusedVariables false
set_option linter.unusedSimpArgs false
set_option maxRecDepth 100000
@[go_sem] def u0:List (Nat×Nat×Nat):=[(0,(5,0)),(1,(5,0)),(2,(5,0)),(3,(0,0)),(4,(0,0)),(5,(5,0)),(6,(5,0)),(7,(0,0)),(8,(0,0)),(10,(0,0)),(11,(0,0)),(9,(1,0)),(12,(2,0)),(13,(0,0)),(14,(5,0)),(15,(5,0))]
@[go_sem] def u1:List (Nat×Nat×Nat):=[(0,(5,0)),(2,(5,0)),(1,(0,0)),(3,(0,0)),(4,(5,0)),(5,(0,0)),(6,(2,0)),(7,(5,0)),(8,(5,0)),(9,(5,0)),(10,(2,0))]
@[go_sem] def u2:List (Nat×Nat×Nat):=[(0,(0,0)),(2,(0,0)),(1,(1,0)),(4,(5,0)),(3,(2,0)),(5,(2,0)),(6,(5,0)),(7,(2,0))]
@[go_sem] def u3:List (Nat×Nat×Nat):=[(0,(5,0)),(4,(5,0)),(1,(0,0)),(5,(0,0)),(6,(0,0)),(7,(5,0)),(8,(5,0)),(2,(1,0)),(3,(1,0)),(9,(2,0)),(10,(5,0)),(11,(5,0)),(12,(5,0)),(13,(5,0)),(14,(5,0))]
@[go_sem] def u4:List (Nat×Nat×Nat):=[(0,(5,0)),(3,(5,0)),(1,(0,0)),(4,(0,0)),(2,(1,0)),(5,(2,0)),(6,(2,0)),(7,(5,0)),(8,(5,0)),(9,(5,0)),(10,(5,0)),(11,(5,0))]
@[go_sem] def u5:List (Nat×Nat×Nat):=[(0,(5,0)),(1,(5,0)),(2,(5,0)),(4,(5,0)),(5,(5,0)),(6,(5,0)),(3,(0,0)),(7,(0,0)),(8,(5,0))]
@[go_sem] def u6:List (Nat×Nat×Nat):=[(2,(5,0)),(5,(5,0)),(0,(0,0)),(3,(0,0)),(10,(4,0)),(1,(1,0)),(4,(2,0)),(6,(2,0)),(7,(5,0)),(8,(5,0)),(9,(5,0)),(10,(3,0)),(11,(2,0)),(12,(5,0))]
@[go_sem] def u7:List (Nat×Nat×Nat):=[(0,(5,0)),(1,(5,0)),(2,(5,0)),(4,(5,0)),(6,(5,0)),(3,(0,0)),(5,(0,0)),(7,(2,0)),(8,(5,0)),(9,(5,0)),(10,(5,0)),(11,(2,0)),(12,(5,0))]
@[go_sem] def u8:List (Nat×Nat×Nat):=[(0,(5,0)),(1,(5,0)),(2,(5,0)),(5,(5,0)),(6,(5,0)),(7,(5,0)),(9,(5,0)),(8,(0,0)),(10,(0,0)),(11,(5,0)),(3,(1,0)),(4,(1,0)),(12,(2,0)),(13,(5,0)),(14,(5,0)),(15,(5,0)),(16,(5,0)),(17,(5,0))]
@[go_sem] def u9:List (Nat×Nat×Nat):=[(0,(5,0)),(2,(5,0)),(3,(5,0)),(4,(5,0)),(5,(5,0)),(6,(5,0)),(1,(0,0)),(7,(0,0)),(8,(2,0)),(9,(5,0)),(10,(5,0)),(11,(5,0)),(12,(5,0)),(13,(5,0))]
@[go_sem] def u10:List (Nat×Nat×Nat):=[(0,(0,0)),(1,(0,0)),(2,(0,0)),(3,(1,0)),(4,(2,0)),(5,(2,0))]
@[go_sem] def u11:List (Nat×Nat×Nat):=[(0,(5,0)),(2,(5,0)),(3,(5,0)),(4,(5,0)),(1,(0,0)),(5,(0,0)),(6,(2,0)),(7,(2,0)),(8,(1,0)),(9,(2,0)),(10,(5,0))]
@[go_sem] def u12:List (Nat×Nat×Nat):=[(1,(5,0)),(0,(0,0)),(2,(1,0)),(3,(5,0)),(4,(1,0)),(5,(5,0)),(6,(5,0))]
@[go_sem] def u13:List (Nat×Nat×Nat):=[(0,(5,0)),(1,(5,0)),(2,(5,0)),(3,(5,0)),(6,(5,0)),(4,(0,0)),(5,(0,0)),(7,(5,0)),(8,(1,0)),(9,(2,0)),(10,(5,0)),(11,(5,0)),(12,(2,0))]
@[go_sem] def u14:List (Nat×Nat×Nat):=[(0,(5,0)),(4,(5,0)),(1,(0,0)),(2,(5,0)),(3,(5,0)),(5,(0,0)),(6,(5,0)),(7,(5,0)),(8,(5,0)),(9,(0,0)),(10,(1,0)),(11,(5,0)),(12,(2,0))]
@[go_sem] def u15:List (Nat×Nat×Nat):=[(1,(5,0)),(0,(0,0)),(2,(0,0)),(3,(1,0)),(4,(5,0)),(5,(1,0)),(6,(5,0)),(7,(5,0))]
@[go_sem] def u16:List (Nat×Nat×Nat):=[(0,(5,0)),(4,(5,0)),(1,(0,0)),(5,(0,0)),(6,(5,0)),(7,(5,0)),(8,(0,0)),(2,(1,0)),(3,(1,0)),(9,(2,0)),(10,(1,0)),(11,(2,0)),(12,(5,0))]
@[go_sem] def u17:List (Nat×Nat×Nat):=[(0,(5,0)),(2,(5,0)),(4,(5,0)),(6,(5,0)),(1,(0,0)),(3,(0,0)),(5,(0,0)),(7,(0,0)),(8,(1,0)),(9,(1,0)),(10,(5,0))]
@[go_sem] def u18:List (Nat×Nat×Nat):=[(0,(5,0)),(2,(5,0)),(5,(5,0)),(1,(0,0)),(3,(0,0)),(6,(0,0)),(4,(4,0)),(7,(1,0)),(4,(3,0)),(8,(2,0)),(9,(5,0))]
@[go_sem] def WY:List (Nat×Nat×Nat):=[(0,(5,0)),(1,(5,0)),(4,(5,0)),(5,(5,0)),(6,(5,0)),(7,(5,0)),(2,(0,0)),(3,(5,0)),(8,(0,0)),(9,(2,0))]
@[go_sem] def u20:List (Nat×Nat×Nat):=[(0,(5,0)),(1,(5,0)),(2,(5,0)),(5,(5,0)),(6,(5,0)),(7,(5,0)),(3,(0,0)),(8,(0,0)),(4,(1,0)),(9,(5,0)),(10,(1,0)),(11,(5,0))]
@[go_sem] def u21:List (Nat×Nat×Nat):=[(0,(5,0)),(2,(5,0)),(3,(5,0)),(1,(0,0)),(4,(0,0)),(5,(1,0)),(6,(5,0)),(7,(5,0)),(8,(2,0))]
@[go_sem] def u22:List (Nat×Nat×Nat):=[(0,(5,0)),(1,(5,0)),(2,(5,0)),(4,(5,0)),(5,(5,0)),(6,(5,0)),(9,(5,0)),(10,(5,0)),(11,(5,0)),(3,(0,0)),(7,(0,0)),(12,(0,0)),(8,(1,0)),(13,(5,0)),(14,(1,0)),(15,(5,0))]
@[go_sem] def u23:List (Nat×Nat×Nat):=[(0,(5,0)),(1,(5,0)),(2,(5,0)),(4,(5,0)),(5,(5,0)),(6,(5,0)),(3,(0,0)),(7,(0,0)),(8,(5,0)),(9,(5,0)),(10,(0,0)),(11,(0,0)),(12,(0,0)),(13,(0,0)),(14,(0,0)),(15,(0,0)),(16,(0,0)),(17,(0,0)),(18,(2,0)),(19,(5,0)),(20,(5,0))]
@[go_sem] def u24:List (Nat×Nat×Nat):=[(0,(5,0)),(1,(5,0)),(2,(5,0)),(4,(5,0)),(5,(5,0)),(6,(5,0)),(3,(0,0)),(7,(0,0)),(8,(5,0)),(9,(5,0)),(10,(0,0)),(11,(0,0)),(12,(0,0)),(13,(0,0)),(14,(0,0)),(15,(0,0)),(16,(0,0)),(17,(0,0)),(18,(0,0)),(19,(5,0)),(20,(5,0)),(21,(0,0)),(22,(0,0)),(23,(0,0)),(24,(0,0)),(25,(0,0)),(26,(0,0)),(27,(0,0)),(28,(0,0)),(29,(0,0)),(30,(5,0)),(31,(5,0)),(32,(0,0)),(33,(0,0)),(34,(0,0)),(35,(0,0)),(36,(0,0)),(37,(0,0)),(38,(0,0)),(39,(0,0)),(40,(2,0)),(41,(5,0)),(42,(5,0))]
@[go_sem] def u25:List (Nat×Nat×Nat):=[(0,(5,0)),(1,(5,0)),(2,(2,0)),(3,(5,0)),(4,(0,0)),(5,(0,0)),(6,(0,0)),(7,(0,0)),(8,(0,0)),(9,(0,0)),(10,(0,0)),(11,(0,0)),(12,(0,0)),(13,(5,0)),(14,(5,0)),(15,(0,0)),(16,(0,0)),(17,(0,0)),(18,(0,0)),(19,(0,0)),(20,(0,0)),(21,(0,0)),(22,(0,0)),(23,(0,0)),(24,(2,0)),(25,(5,0)),(26,(5,0))]
@[go_sem] def Xd:List (Nat×Nat×Nat):=[(0,(5,0)),(1,(5,0)),(2,(5,0)),(4,(5,0)),(5,(5,0)),(6,(5,0)),(3,(0,0)),(7,(0,0)),(8,(5,0)),(9,(5,0)),(10,(0,0)),(11,(0,0)),(12,(0,0)),(13,(0,0)),(14,(0,0)),(15,(0,0)),(16,(0,0)),(17,(0,0)),(18,(0,0)),(19,(5,0)),(20,(5,0)),(21,(0,0)),(22,(0,0)),(23,(0,0)),(24,(0,0)),(25,(0,0)),(26,(0,0)),(27,(0,0)),(28,(0,0)),(29,(2,0)),(30,(5,0)),(31,(5,0))]
@[go_sem] def u27:List (Nat×Nat×Nat):=[(0,(5,0)),(1,(0,0)),(2,(5,0)),(3,(0,0)),(4,(0,0)),(5,(0,0)),(6,(1,0)),(7,(0,0)),(8,(5,0))]
@[go_sem] def u28:List (Nat×Nat×Nat):=[(0,(5,0)),(1,(5,0)),(2,(5,0)),(3,(0,0)),(4,(1,0)),(5,(1,0)),(6,(2,0)),(7,(5,0)),(8,(5,0)),(9,(2,0)),(10,(5,0))]
@[go_sem] def u29:List (Nat×Nat×Nat):=[(0,(5,0)),(1,(5,0)),(2,(5,0)),(3,(0,0)),(4,(0,0)),(5,(2,0)),(6,(5,0))]
@[go_sem] def u30:List (Nat×Nat×Nat):=[(2,(5,0)),(3,(5,0)),(4,(5,0)),(5,(0,0)),(0,(1,0)),(1,(1,0)),(6,(2,0)),(7,(2,0)),(8,(5,0)),(9,(5,0)),(10,(5,0)),(11,(5,0)),(12,(5,0))]
@[go_sem] def u31:List (Nat×Nat×Nat):=[(0,(0,0)),(2,(0,0)),(8,(4,0)),(1,(1,0)),(3,(2,0)),(4,(2,0)),(5,(5,0)),(6,(5,0)),(7,(5,0)),(8,(3,0)),(9,(2,0)),(10,(5,0))]
@[go_sem] def u32:List (Nat×Nat×Nat):=[(0,(5,0)),(1,(5,0)),(2,(5,0)),(4,(5,0)),(5,(5,0)),(6,(5,0)),(7,(5,0)),(3,(0,0)),(8,(0,0)),(9,(5,0)),(10,(5,0))]
@[go_sem] def u33:List (Nat×Nat×Nat):=[(0,(5,0)),(3,(5,0)),(7,(5,0)),(10,(5,0)),(1,(0,0)),(2,(5,0)),(4,(0,0)),(5,(5,0)),(6,(5,0)),(8,(0,0)),(9,(5,0)),(14,(5,0)),(4,(10,47104)),(11,(11,0)),(12,(11,2048)),(13,(11,4096)),(15,(12,0)),(16,(5,0)),(17,(2,0))]
@[go_sem] def u34:List (Nat×Nat×Nat):=[(0,(0,0)),(2,(0,0)),(1,(1,0)),(3,(2,0)),(4,(2,0)),(5,(5,0))]
@[go_sem] def u35:List (Nat×Nat×Nat):=[(0,(5,0)),(1,(5,0)),(2,(5,0)),(4,(5,0)),(5,(5,0)),(6,(5,0)),(11,(5,0)),(12,(5,0)),(13,(5,0)),(3,(0,0)),(7,(0,0)),(8,(5,0)),(9,(5,0)),(10,(0,0)),(14,(0,0)),(15,(5,0)),(16,(5,0)),(17,(5,0)),(18,(5,0)),(19,(5,0)),(20,(2,0))]
@[go_sem] def u36:List (Nat×Nat×Nat):=[(0,(5,0)),(4,(5,0)),(1,(0,0)),(2,(5,0)),(5,(0,0)),(6,(5,0)),(3,(1,0)),(7,(2,0)),(8,(5,0)),(9,(5,0))]
@[go_sem] def u37:List (Nat×Nat×Nat):=[(0,(5,0)),(1,(5,0)),(2,(5,0)),(6,(5,0)),(7,(5,0)),(8,(5,0)),(3,(0,0)),(4,(0,0)),(5,(5,0)),(9,(0,0)),(10,(5,0)),(11,(5,0))]
@[go_sem] def u38:List (Nat×Nat×Nat):=[(0,(5,0)),(1,(5,0)),(2,(5,0)),(4,(5,0)),(5,(5,0)),(6,(5,0)),(11,(5,0)),(12,(5,0)),(13,(5,0)),(3,(0,0)),(7,(0,0)),(8,(5,0)),(9,(5,0)),(10,(0,0)),(14,(0,0)),(15,(5,0)),(16,(5,0)),(17,(5,0)),(18,(5,0)),(19,(5,0))]
@[go_sem] def u39:List (Nat×Nat×Nat):=[(0,(5,0)),(2,(0,0)),(1,(1,0)),(3,(2,0)),(4,(5,0))]
@[go_sem] def u40:List (Nat×Nat×Nat):=[(0,(5,0)),(1,(5,0)),(2,(5,0)),(5,(5,0)),(6,(5,0)),(7,(5,0)),(9,(5,0)),(10,(5,0)),(11,(5,0)),(3,(0,0)),(8,(0,0)),(12,(0,0)),(4,(1,0)),(13,(5,0)),(14,(1,0)),(15,(5,0))]
@[go_sem] def u41:List (Nat×Nat×Nat):=[(0,(5,0)),(1,(5,0)),(2,(5,0)),(4,(5,0)),(5,(5,0)),(6,(5,0)),(3,(0,0)),(7,(0,0)),(8,(5,0)),(9,(5,0)),(10,(0,0)),(12,(0,0)),(11,(1,0)),(13,(2,0)),(14,(2,0)),(15,(5,0)),(16,(5,0))]
@[go_sem] def u42:List (Nat×Nat×Nat):=[(0,(5,0)),(1,(0,0)),(2,(0,0)),(3,(1,0)),(4,(5,0))]
@[go_sem] def u43:List (Nat×Nat×Nat):=[(0,(5,0)),(1,(5,0)),(2,(5,0)),(4,(5,0)),(5,(5,0)),(6,(5,0)),(7,(5,0)),(9,(5,0)),(12,(5,0)),(14,(5,0)),(17,(5,0)),(18,(5,0)),(19,(5,0)),(3,(0,0)),(8,(0,0)),(10,(5,0)),(11,(0,0)),(13,(1,0)),(15,(5,0)),(16,(5,0)),(20,(5,0)),(21,(5,0)),(22,(2,0))]
@[go_sem] def u44:List (Nat×Nat×Nat):=[(0,(5,0)),(1,(5,0)),(2,(5,0)),(4,(5,0)),(5,(5,0)),(6,(5,0)),(7,(5,0)),(8,(5,0)),(10,(5,0)),(11,(5,0)),(14,(5,0)),(16,(5,0)),(19,(5,0)),(20,(5,0)),(21,(5,0)),(3,(0,0)),(9,(0,0)),(12,(5,0)),(13,(0,0)),(15,(1,0)),(17,(5,0)),(18,(5,0)),(22,(5,0)),(23,(5,0)),(24,(2,0))]
@[go_sem] def u45:List (Nat×Nat×Nat):=[(0,(5,0)),(1,(5,0)),(3,(5,0)),(5,(5,0)),(6,(5,0)),(4,(0,0)),(2,(4,0)),(7,(2,0)),(2,(3,0)),(8,(2,0)),(9,(2,0)),(10,(2,0)),(11,(5,0))]
@[go_sem] def u46:List (Nat×Nat×Nat):=[(0,(0,0)),(2,(0,0)),(5,(0,0)),(8,(0,0)),(1,(1,0)),(3,(1,0)),(4,(5,0)),(6,(1,0)),(7,(1,0)),(9,(2,0)),(10,(2,0)),(11,(2,0)),(12,(5,0))]
@[go_sem] def u47:List (Nat×Nat×Nat):=[(1,(5,0)),(2,(5,0)),(0,(0,0)),(3,(0,0)),(4,(1,0)),(5,(0,0)),(6,(5,0)),(7,(5,0)),(8,(2,0))]
@[go_sem] def u48:List (Nat×Nat×Nat):=[(0,(0,0)),(1,(1,0)),(2,(2,0)),(3,(5,0)),(4,(5,0)),(5,(0,0)),(6,(1,0)),(7,(2,0)),(8,(0,0)),(9,(5,0))]
@[go_sem] def u49:List (Nat×Nat×Nat):=[(0,(0,0)),(1,(0,0)),(4,(4,0)),(2,(1,0)),(3,(2,0)),(4,(3,0)),(5,(2,0))]
@[go_sem] def u50:List (Nat×Nat×Nat):=[(0,(5,0)),(4,(5,0)),(1,(0,0)),(2,(5,0)),(3,(5,0)),(8,(5,0)),(5,(0,0)),(6,(5,0)),(7,(5,0)),(9,(5,0))]
@[go_sem] def u51:List (Nat×Nat×Nat):=[(0,(5,0)),(1,(5,0)),(6,(5,0)),(7,(5,0)),(8,(5,0)),(2,(0,0)),(3,(5,0)),(9,(0,0)),(4,(1,0)),(5,(1,0)),(10,(2,0)),(11,(5,0)),(12,(5,0)),(13,(5,0)),(14,(5,0)),(15,(5,0))]
@[go_sem] def u52:List (Nat×Nat×Nat):=[(0,(5,0)),(1,(5,0)),(3,(5,0)),(5,(5,0)),(6,(5,0)),(7,(5,0)),(2,(0,0)),(8,(0,0)),(4,(1,0)),(9,(2,0)),(10,(5,0)),(11,(5,0)),(12,(5,0)),(13,(2,0)),(14,(5,0))]
@[go_sem] def u53:List (Nat×Nat×Nat):=[(0,(5,0)),(1,(5,0)),(2,(5,0)),(4,(5,0)),(3,(0,0)),(5,(0,0)),(6,(5,0)),(7,(2,0))]
@[go_sem] def u54:List (Nat×Nat×Nat):=[(0,(5,0)),(2,(5,0)),(4,(5,0)),(1,(0,0)),(5,(0,0)),(3,(1,0)),(6,(5,0)),(7,(5,0)),(8,(5,0))]
@[go_sem] def u55:List (Nat×Nat×Nat):=[(0,(5,0)),(1,(5,0)),(2,(5,0)),(3,(5,0)),(4,(0,0)),(5,(5,0)),(6,(0,0)),(7,(0,0)),(8,(0,0)),(9,(0,0)),(10,(0,0)),(11,(0,0)),(12,(0,0)),(13,(0,0)),(14,(0,0)),(15,(0,0)),(16,(0,0)),(17,(5,0))]
@[go_sem] def u56:List (Nat×Nat×Nat):=[(0,(5,0)),(1,(5,0)),(2,(5,0)),(4,(5,0)),(5,(5,0)),(6,(5,0)),(7,(5,0)),(3,(0,0)),(8,(0,0)),(9,(5,0)),(10,(5,0)),(11,(0,0)),(12,(5,0)),(13,(5,0))]
@[go_sem] def u57:List (Nat×Nat×Nat):=[(0,(5,0)),(1,(5,0)),(2,(5,0)),(3,(5,0)),(7,(5,0)),(8,(5,0)),(9,(5,0)),(10,(5,0)),(4,(0,0)),(5,(5,0)),(6,(5,0)),(14,(5,0)),(11,(0,0)),(12,(5,0)),(13,(5,0)),(15,(5,0))]
@[go_sem] def u58:List (Nat×Nat×Nat):=[(0,(5,0)),(1,(0,0)),(2,(5,0)),(3,(5,0)),(4,(0,0)),(5,(0,0)),(6,(0,0)),(7,(0,0)),(9,(0,0)),(10,(0,0)),(11,(0,0)),(12,(0,0)),(8,(1,0)),(13,(0,0)),(14,(0,0)),(15,(5,0))]
@[go_sem] def u59:List (Nat×Nat×Nat):=[(0,(5,0)),(1,(5,0)),(2,(5,0)),(4,(5,0)),(5,(5,0)),(6,(5,0)),(3,(0,0)),(7,(5,0)),(8,(5,0)),(9,(2,0))]
@[go_sem] def u60:List (Nat×Nat×Nat):=[(0,(0,0)),(2,(0,0)),(4,(4,0)),(1,(1,0)),(3,(2,0)),(4,(3,0)),(5,(2,0))]
@[go_sem] def u61:List (Nat×Nat×Nat):=[(0,(0,0)),(2,(0,0)),(8,(4,0)),(9,(4,0)),(1,(1,0)),(3,(2,0)),(4,(5,0)),(5,(5,0)),(6,(5,0)),(7,(5,0)),(8,(3,0)),(9,(3,0)),(10,(2,0)),(11,(2,0)),(12,(5,0))]
@[go_sem] def u62:List (Nat×Nat×Nat):=[(0,(0,0)),(1,(4,0)),(7,(4,0)),(1,(3,0)),(2,(1,0)),(3,(2,0)),(4,(5,0)),(5,(5,0)),(6,(5,0)),(7,(3,0)),(8,(2,0)),(9,(5,0))]
@[go_sem] def u63:List (Nat×Nat×Nat):=[(0,(0,0)),(2,(0,0)),(4,(0,0)),(1,(1,0)),(3,(1,0)),(5,(5,0)),(6,(2,0))]
@[go_sem] def u64:List (Nat×Nat×Nat):=[(0,(5,0)),(5,(5,0)),(1,(0,0)),(2,(0,0)),(6,(0,0)),(7,(0,0)),(3,(1,0)),(4,(1,0)),(8,(1,0)),(9,(2,0)),(10,(2,0)),(11,(5,0))]
@[go_sem] def u65:List (Nat×Nat×Nat):=[(0,(5,0)),(1,(0,0)),(2,(0,0)),(9,(4,0)),(10,(4,0)),(3,(1,0)),(4,(2,0)),(5,(5,0)),(6,(5,0)),(7,(5,0)),(8,(5,0)),(9,(3,0)),(10,(3,0)),(11,(2,0)),(12,(2,0)),(13,(5,0))]
@[go_sem] def u66:List (Nat×Nat×Nat):=[(1,(5,0)),(4,(5,0)),(0,(0,0)),(2,(0,0)),(5,(0,0)),(3,(1,0)),(6,(5,0)),(7,(2,0)),(8,(2,0))]
@[go_sem] def u67:List (Nat×Nat×Nat):=[(0,(5,0)),(1,(0,0)),(4,(0,0)),(2,(1,0)),(3,(1,0)),(5,(2,0)),(6,(2,0)),(7,(5,0)),(8,(5,0)),(9,(5,0)),(10,(5,0))]
@[go_sem] def u68:List (Nat×Nat×Nat):=[(0,(5,0)),(5,(5,0)),(6,(5,0)),(1,(0,0)),(2,(5,0)),(7,(0,0)),(8,(5,0)),(3,(4,0)),(13,(4,0)),(3,(3,0)),(4,(1,0)),(9,(2,0)),(10,(5,0)),(11,(5,0)),(12,(5,0)),(13,(3,0)),(14,(2,0)),(15,(5,0))]
@[go_sem] def u69:List (Nat×Nat×Nat):=[(0,(0,0)),(1,(8,2)),(3,(2,0))]
@[go_sem] def u70:List (Nat×Nat×Nat):=[(0,(5,0)),(2,(5,0)),(1,(0,0)),(3,(0,0)),(4,(5,0)),(5,(0,0)),(6,(2,0)),(7,(5,0)),(8,(5,0)),(9,(5,0)),(10,(5,0)),(11,(5,0))]
@[go_sem] def u71:List (Nat×Nat×Nat):=[(0,(5,0)),(2,(5,0)),(5,(5,0)),(7,(5,0)),(1,(0,0)),(3,(0,0)),(4,(5,0)),(6,(0,0)),(8,(0,0)),(9,(1,0)),(10,(2,0)),(11,(2,0))]
@[go_sem] def Zi:List (Nat×Nat×Nat):=[(0,(0,0)),(1,(1,0)),(2,(1,0)),(3,(2,0)),(4,(2,0))]
@[go_sem] def u73:List (Nat×Nat×Nat):=[(0,(5,0)),(2,(5,0)),(1,(0,0)),(3,(0,0)),(4,(5,0)),(5,(0,0)),(7,(0,0)),(6,(1,0)),(8,(2,0)),(9,(2,0)),(10,(2,0)),(11,(5,0))]
@[go_sem] def u74:List (Nat×Nat×Nat):=[(0,(5,0)),(5,(5,0)),(1,(0,0)),(2,(0,0)),(6,(0,0)),(7,(0,0)),(11,(0,0)),(13,(0,0)),(3,(1,0)),(4,(1,0)),(8,(1,0)),(9,(1,0)),(10,(1,0)),(12,(1,0)),(14,(2,0)),(15,(2,0)),(16,(2,0)),(17,(2,0))]
@[go_sem] def u75:List (Nat×Nat×Nat):=[(0,(5,0)),(1,(0,0)),(2,(1,0)),(3,(1,0)),(4,(2,0)),(5,(2,0))]
@[go_sem] def u76:List (Nat×Nat×Nat):=[(0,(5,0)),(2,(5,0)),(5,(5,0)),(7,(5,0)),(1,(0,0)),(3,(5,0)),(4,(0,0)),(10,(5,0)),(6,(0,0)),(8,(5,0)),(9,(0,0)),(11,(5,0))]
@[go_sem] def u77:List (Nat×Nat×Nat):=[(0,(5,0)),(1,(5,0)),(2,(5,0)),(4,(5,0)),(5,(5,0)),(6,(5,0)),(7,(5,0)),(9,(5,0)),(10,(5,0)),(3,(0,0)),(8,(0,0)),(11,(5,0)),(12,(5,0)),(13,(5,0)),(14,(2,0))]
@[go_sem] def u78:List (Nat×Nat×Nat):=[(0,(5,0)),(2,(5,0)),(3,(5,0)),(4,(5,0)),(6,(5,0)),(1,(2,0)),(5,(2,0)),(7,(2,0)),(8,(2,0)),(9,(2,0)),(10,(5,0))]
@[go_sem] def u79:List (Nat×Nat×Nat):=[(0,(5,0)),(2,(5,0)),(4,(5,0)),(1,(0,0)),(3,(0,0)),(5,(0,0)),(6,(1,0)),(7,(2,0)),(8,(2,0))]
@[go_sem] def u80:List (Nat×Nat×Nat):=[(0,(5,0)),(1,(5,0)),(2,(5,0)),(3,(5,0)),(4,(5,0)),(5,(5,0)),(6,(5,0)),(7,(5,0))]
@[go_sem] def u81:List (Nat×Nat×Nat):=[(0,(5,0)),(1,(5,0)),(2,(5,0)),(4,(5,0)),(5,(5,0)),(6,(5,0)),(7,(5,0)),(3,(0,0)),(8,(0,0)),(9,(5,0))]
@[go_sem] def u82:List (Nat×Nat×Nat):=[(0,(5,0)),(1,(5,0)),(2,(5,0)),(4,(5,0)),(5,(5,0)),(6,(5,0)),(7,(5,0)),(9,(5,0)),(10,(5,0)),(11,(5,0)),(12,(5,0)),(3,(0,0)),(8,(0,0)),(13,(0,0)),(14,(2,0)),(15,(5,0)),(16,(5,0)),(17,(5,0)),(18,(5,0))]
@[go_sem] def u83:List (Nat×Nat×Nat):=[(0,(5,0)),(1,(5,0)),(2,(5,0)),(3,(5,0)),(4,(5,0)),(5,(5,0)),(6,(5,0)),(7,(5,0)),(8,(5,0)),(9,(5,0))]
@[go_sem] def u84:List (Nat×Nat×Nat):=[(2,(5,0)),(3,(0,0)),(0,(4,0)),(8,(4,0)),(0,(3,0)),(1,(1,0)),(4,(2,0)),(5,(5,0)),(6,(5,0)),(7,(5,0)),(8,(3,0)),(9,(2,0)),(10,(5,0))]
@[go_sem] def u85:List (Nat×Nat×Nat):=[(0,(0,0)),(2,(5,0)),(1,(8,3)),(4,(5,0)),(5,(2,0))]
@[go_sem] def Ys:List (Nat×Nat×Nat):=[(0,(5,0)),(2,(5,0)),(4,(5,0)),(6,(5,0)),(1,(0,0)),(5,(0,0)),(3,(1,0)),(7,(2,0)),(8,(5,0))]
@[go_sem] def u87:List (Nat×Nat×Nat):=[(0,(5,0)),(2,(5,0)),(1,(0,0)),(4,(5,0)),(3,(8,5)),(6,(5,0)),(7,(2,0))]
@[go_sem] def u88:List (Nat×Nat×Nat):=[(0,(5,0)),(2,(5,0)),(3,(5,0)),(4,(5,0)),(1,(0,0)),(5,(0,0)),(6,(2,0)),(7,(5,0)),(8,(5,0)),(9,(5,0)),(10,(5,0)),(11,(2,0)),(12,(5,0))]
@[go_sem] def u89:List (Nat×Nat×Nat):=[(0,(5,0)),(1,(5,0)),(2,(5,0)),(4,(5,0)),(6,(5,0)),(3,(10,168)),(3,(11,0)),(5,(11,0)),(7,(12,0)),(8,(2,0)),(9,(5,0)),(10,(5,0)),(11,(5,0)),(12,(5,0)),(13,(2,0)),(14,(5,0))]
@[go_sem] def u90:List (Nat×Nat×Nat):=[(0,(5,0)),(1,(5,0)),(2,(5,0)),(4,(5,0)),(5,(5,0)),(6,(5,0)),(7,(5,0)),(8,(5,0)),(2,(10,520)),(3,(11,0)),(9,(12,0)),(10,(2,0)),(11,(5,0)),(12,(5,0)),(13,(5,0)),(14,(5,0)),(15,(2,0)),(16,(5,0))]
@[go_sem] def u91:List (Nat×Nat×Nat):=[(0,(5,0)),(1,(5,0)),(2,(5,0)),(4,(5,0)),(5,(5,0)),(6,(5,0)),(3,(10,392)),(3,(11,0)),(7,(12,0)),(8,(11,128)),(9,(2,0)),(10,(5,0)),(11,(5,0)),(12,(5,0)),(13,(5,0)),(14,(2,0)),(15,(5,0))]
@[go_sem] def u92:List (Nat×Nat×Nat):=[(0,(5,0)),(1,(5,0)),(2,(5,0)),(4,(5,0)),(3,(0,0)),(5,(0,0)),(6,(5,0)),(7,(5,0)),(8,(0,0)),(9,(0,0)),(10,(0,0)),(11,(0,0)),(12,(0,0)),(13,(0,0)),(14,(0,0)),(15,(0,0)),(16,(0,0)),(17,(0,0)),(18,(0,0)),(19,(0,0)),(20,(0,0)),(21,(5,0))]
@[go_sem] def u93:List (Nat×Nat×Nat):=[(0,(5,0)),(2,(5,0)),(4,(5,0)),(3,(0,0)),(5,(0,0)),(6,(5,0)),(1,(1,0)),(7,(5,0))]
def pl:aH:=fun _=> []
section
variable {u v:V} {σ:St} {F:FV} {kv:KV} {ks:KS} {e:Bool} {i:IntKind} {a:Int} {o z i' off len m:Nat} {l:List (List PV)} {us:List V} {β:Type} {L:List β} {f:β→List PV} {lo hi:Option V}
def pl5:aH:=fun id=>match id with
 | 9=>u0
 | _=> []
theorem adV:pl5 9=u0:=(rfl)
def pl6:aH:=fun id=>match id with
 | 20=>u85
 | 22=>Ys
 | 25=>Ys
 | 28=>Ys
 | 13=>Ys
 | _=> []
def HR:aH:=fun id=>match id with
 | 8=>u1
 | 24=>u2
 | 28=>u3
 | 38=>u4
 | _=> []
theorem adL:HR 8=u1:=(rfl)
theorem ab0:HR 24=u2:=(rfl)
theorem ac8:HR 28=u3:=(rfl)
theorem acw:HR 38=u4:=(rfl)
def afJ:aH:=fun id=>match id with
 | 6=>u87
 | _=> []
def U5:aH:=fun id=>match id with
 | 6=>u5
 | _=> []
theorem acD:U5 6=u5:=(rfl)
def IL:aH:=fun id=>match id with
 | 5=>u6
 | 7=>u6
 | _=> []
theorem acE:IL 5=u6:=(rfl)
theorem acn:IL 7=u6:=(rfl)
def NO:aH:=fun id=>match id with
 | 4=>u7
 | _=> []
theorem acW:NO 4=u7:=(rfl)
def Nd:aH:=fun id=>match id with
 | 6=>u8
 | _=> []
theorem ace:Nd 6=u8:=(rfl)
def FL:aH:=fun id=>match id with
 | 9=>u9
 | _=> []
theorem acs:FL 9=u9:=(rfl)
def Fs:aH:=fun id=>match id with
 | 10=>u10
 | _=> []
theorem WZ:Fs 10=u10:=(rfl)
def VU:aH:=fun id=>match id with
 | 5=>u11
 | _=> []
theorem acb:VU 5=u11:=(rfl)
def Tk:aH:=fun id=>match id with
 | 3=>u12
 | _=> []
theorem abm:Tk 3=u12:=(rfl)
def S6:aH:=fun id=>match id with
 | 16=>u13
 | _=> []
theorem XD:S6 16=u13:=(rfl)
def U1:aH:=fun id=>match id with
 | 2=>u14
 | _=> []
theorem adt:U1 2=u14:=(rfl)
def Wa:aH:=fun id=>match id with
 | 4=>u15
 | _=> []
theorem acB:Wa 4=u15:=(rfl)
def uT:aH:=fun id=>match id with
 | 5=>u16
 | 8=>u17
 | 11=>u18
 | _=> []
theorem acA:uT 5=u16:=(rfl)
theorem abZ:uT 8=u17:=(rfl)
theorem Yw:uT 11=u18:=(rfl)
def Ov:aH:=fun id=>match id with
 | 5=>WY
 | 6=>WY
 | _=> []
theorem acq:Ov 5=WY:=(rfl)
theorem acd:Ov 6=WY:=(rfl)
def afC:aH:=fun id=>match id with
 | 11=>u88
 | 13=>u89
 | 18=>u90
 | 21=>u91
 | 24=>u91
 | _=> []
def Rs:List (Nat×Nat×Nat):=[(3,(11,0)),(5,(11,0)),(7,(12,0))]
def RO:List (Nat×Nat×Nat):=[(3,(11,0)),(9,(12,0))]
def O0:List (Nat×Nat×Nat):=[(3,(11,0)),(7,(12,0)),(8,(11,128))]
def Rt:List (Nat×Nat×Nat):=[(3,(11,0)),(7,(12,0)),(8,(11,128))]
def afP:aH:=fun id=>match id with
 | 6=>u5
 | _=> []
def WE:aH:=fun id=>match id with
 | 1=>u20
 | _=> []
theorem aa8:WE 1=u20:=(rfl)
def Gh:aH:=fun id=>match id with
 | 6=>u21
 | _=> []
theorem abd:Gh 6=u21:=(rfl)
def Uz:aH:=fun id=>match id with
 | 1=>u22
 | _=> []
theorem abv:Uz 1=u22:=(rfl)
def MS:aH:=fun id=>match id with
 | 1=>u23
 | _=> []
theorem ab5:MS 1=u23:=(rfl)
def E6:aH:=fun id=>match id with
 | 1=>u24
 | _=> []
theorem adb:E6 1=u24:=(rfl)
def Ii:aH:=fun id=>match id with
 | 2=>u25
 | _=> []
theorem aaV:Ii 2=u25:=(rfl)
def NF:aH:=fun id=>match id with
 | 1=>Xd
 | _=> []
theorem aaT:NF 1=Xd:=(rfl)
def Vr:aH:=fun id=>match id with
 | 13=>u27
 | _=> []
theorem W8:Vr 13=u27:=(rfl)
def Te:aH:=fun id=>match id with
 | 6=>u28
 | _=> []
theorem abt:Te 6=u28:=(rfl)
def M6:aH:=fun id=>match id with
 | 5=>u29
 | 8=>u30
 | _=> []
theorem adv:M6 5=u29:=(rfl)
theorem aa5:M6 8=u30:=(rfl)
def WH:aH:=fun id=>match id with
 | 2=>u31
 | _=> []
theorem abW:WH 2=u31:=(rfl)
def Wk:aH:=fun id=>match id with
 | 7=>u32
 | _=> []
theorem aaM:Wk 7=u32:=(rfl)
def NZ:aH:=fun id=>match id with
 | 2=>u33
 | _=> []
theorem adw:NZ 2=u33:=(rfl)
def bH:List (Nat×Nat×Nat):=[(11,(11,0)),(12,(11,2048)),(13,(11,4096)),(15,(12,0))]
theorem P8 {K:KR} {all:List Oper} {ρ:Vg}:bZ true Tryz.prog all.toArray [(4,(10,47104)),(11,(11,0)),(12,(11,2048)),(13,(11,4096)),(15,(12,0)),(16,(5,0)),(17,(2,0))] ρ σ K=fp Tryz.prog all.toArray bH 4 47104 true ρ σ fun τ ρ' σ'=>bZ τ Tryz.prog all.toArray [(16,(5,0)),(17,(2,0))] ρ' σ' K:=(rfl)
theorem DO {K:KR} {all:List Oper} {ρ:Vg}:fp Tryz.prog all.toArray bH 4 47104 true ρ σ K=((cY all 11 fun o=>iq true Tryz.prog o ρ σ 1 fun τ u σ'=>fp Tryz.prog all.toArray bH 3 45056 τ (bS ρ o.dst u) σ' K)∧(cY all 15 fun o=>iq true Tryz.prog o ρ σ 2 fun τ u σ'=>fp Tryz.prog all.toArray bH 3 14336 τ (bS ρ o.dst u) σ' K)∧True):=(rfl)
theorem DX {K:KR} {all:List Oper} {ρ:Vg}:fp Tryz.prog all.toArray bH 3 45056 true ρ σ K=((cY all 12 fun o=>iq true Tryz.prog o ρ σ 1 fun τ u σ'=>fp Tryz.prog all.toArray bH 2 40960 τ (bS ρ o.dst u) σ' K)∧(cY all 15 fun o=>iq true Tryz.prog o ρ σ 2 fun τ u σ'=>fp Tryz.prog all.toArray bH 2 12288 τ (bS ρ o.dst u) σ' K)∧True):=(rfl)
theorem DF {K:KR} {all:List Oper} {ρ:Vg}:fp Tryz.prog all.toArray bH 3 14336 true ρ σ K=((cY all 11 fun o=>iq true Tryz.prog o ρ σ 1 fun τ u σ'=>fp Tryz.prog all.toArray bH 2 12288 τ (bS ρ o.dst u) σ' K)∧True):=(rfl)
theorem DM {K:KR} {all:List Oper} {ρ:Vg}:fp Tryz.prog all.toArray bH 2 40960 true ρ σ K=((cY all 13 fun o=>iq true Tryz.prog o ρ σ 1 fun τ u σ'=>fp Tryz.prog all.toArray bH 1 32768 τ (bS ρ o.dst u) σ' K)∧(cY all 15 fun o=>iq true Tryz.prog o ρ σ 2 fun τ u σ'=>fp Tryz.prog all.toArray bH 1 8192 τ (bS ρ o.dst u) σ' K)∧True):=(rfl)
theorem DI {K:KR} {all:List Oper} {ρ:Vg}:fp Tryz.prog all.toArray bH 2 12288 true ρ σ K=((cY all 12 fun o=>iq true Tryz.prog o ρ σ 1 fun τ u σ'=>fp Tryz.prog all.toArray bH 1 8192 τ (bS ρ o.dst u) σ' K)∧True):=(rfl)
theorem DK {K:KR} {all:List Oper} {ρ:Vg}:fp Tryz.prog all.toArray bH 1 32768 true ρ σ K=((cY all 15 fun o=>iq true Tryz.prog o ρ σ 2 fun τ u σ'=>fp Tryz.prog all.toArray bH 0 0 τ (bS ρ o.dst u) σ' K)∧True):=(rfl)
theorem ER {K:KR} {all:List Oper} {ρ:Vg}:fp Tryz.prog all.toArray bH 1 8192 true ρ σ K=((cY all 13 fun o=>iq true Tryz.prog o ρ σ 1 fun τ u σ'=>fp Tryz.prog all.toArray bH 0 0 τ (bS ρ o.dst u) σ' K)∧True):=(rfl)
def N4:aH:=fun id=>match id with
 | 4=>u34
 | _=> []
theorem acX:N4 4=u34:=(rfl)
def Sf:aH:=fun id=>match id with
 | 3=>u35
 | _=> []
theorem abh:Sf 3=u35:=(rfl)
def Sy:aH:=fun id=>match id with
 | 2=>u36
 | _=> []
theorem acU:Sy 2=u36:=(rfl)
def Hm:aH:=fun id=>match id with
 | 1=>u37
 | _=> []
theorem Yp:Hm 1=u37:=(rfl)
def Le:aH:=fun id=>match id with
 | 1=>u38
 | _=> []
theorem Xq:Le 1=u38:=(rfl)
def Lv:aH:=fun id=>match id with
 | 4=>u39
 | _=> []
theorem Zh:Lv 4=u39:=(rfl)
def ae9:aH:=fun id=>match id with
 | 9=>u92
 | 14=>u93
 | _=> []
def afj:aH:=fun id=>match id with
 | 25=>u13
 | _=> []
def Mp:aH:=fun id=>match id with
 | 1=>u40
 | _=> []
theorem XO:Mp 1=u40:=(rfl)
def Au:aH:=fun id=>match id with
 | 1=>Xd
 | _=> []
theorem XY:Au 1=Xd:=(rfl)
def K9:aH:=fun id=>match id with
 | 6=>u5
 | _=> []
theorem aaC:K9 6=u5:=(rfl)
def Gz:aH:=fun id=>match id with
 | 1=>u41
 | _=> []
theorem XR:Gz 1=u41:=(rfl)
def Lp:aH:=fun id=>match id with
 | 6=>u5
 | _=> []
theorem XJ:Lp 6=u5:=(rfl)
def EA:aH:=fun id=>match id with
 | 1=>u42
 | _=> []
theorem aar:EA 1=u42:=(rfl)
def Hg:aH:=fun id=>match id with
 | 6=>u43
 | 9=>u44
 | _=> []
theorem aaA:Hg 6=u43:=(rfl)
theorem aah:Hg 9=u44:=(rfl)
def Ml:aH:=fun id=>match id with
 | 3=>u45
 | _=> []
theorem aaB:Ml 3=u45:=(rfl)
def LI:aH:=fun id=>match id with
 | 3=>u46
 | _=> []
theorem Z5:LI 3=u46:=(rfl)
def Mj:aH:=fun id=>match id with
 | 1=>u47
 | _=> []
theorem aau:Mj 1=u47:=(rfl)
def ES:aH:=fun id=>match id with
 | 1=>u48
 | 4=>u49
 | _=> []
theorem XB:ES 1=u48:=(rfl)
theorem Y6:ES 4=u49:=(rfl)
def K6:aH:=fun id=>match id with
 | 1=>u50
 | _=> []
theorem XW:K6 1=u50:=(rfl)
def LH:aH:=fun id=>match id with
 | 1=>u51
 | _=> []
theorem Zu:LH 1=u51:=(rfl)
def Lh:aH:=fun id=>match id with
 | 10=>u52
 | _=> []
theorem Sq:Lh 10=u52:=(rfl)
def Ld:aH:=fun id=>match id with
 | 3=>u53
 | _=> []
theorem aac:Ld 3=u53:=(rfl)
def Mr:aH:=fun id=>match id with
 | 1=>u54
 | _=> []
theorem Zg:Mr 1=u54:=(rfl)
def AU:aH:=fun id=>match id with
 | 1=>u55
 | 5=>u56
 | _=> []
theorem Zd:AU 1=u55:=(rfl)
theorem ZR:AU 5=u56:=(rfl)
def K7:aH:=fun id=>match id with
 | 1=>u57
 | _=> []
theorem Zy:K7 1=u57:=(rfl)
def K8:aH:=fun id=>match id with
 | 6=>u5
 | _=> []
theorem X7:K8 6=u5:=(rfl)
def Lc:aH:=fun id=>match id with
 | 6=>u5
 | _=> []
theorem Xx:Lc 6=u5:=(rfl)
def L7:aH:=fun id=>match id with
 | 4=>u58
 | _=> []
theorem Ya:L7 4=u58:=(rfl)
def Li:aH:=fun id=>match id with
 | 5=>u59
 | _=> []
theorem Xm:Li 5=u59:=(rfl)
def uU:aH:=fun id=>match id with
 | 1=>u60
 | 2=>u61
 | 4=>u62
 | 5=>u63
 | _=> []
theorem Yc:uU 1=u60:=(rfl)
theorem Zn:uU 2=u61:=(rfl)
theorem Z7:uU 4=u62:=(rfl)
theorem aag:uU 5=u63:=(rfl)
def Mm:aH:=fun id=>match id with
 | 1=>u64
 | _=> []
theorem ZC:Mm 1=u64:=(rfl)
def LO:aH:=fun id=>match id with
 | 1=>u65
 | _=> []
theorem Ym:LO 1=u65:=(rfl)
def Mq:aH:=fun id=>match id with
 | 1=>u66
 | _=> []
theorem Xr:Mq 1=u66:=(rfl)
def LD:aH:=fun id=>match id with
 | 3=>u67
 | _=> []
theorem Yv:LD 3=u67:=(rfl)
def LN:aH:=fun id=>match id with
 | 1=>u68
 | _=> []
theorem Y8:LN 1=u68:=(rfl)
def Lf:aH:=fun id=>match id with
 | 3=>u69
 | _=> []
theorem Xi:Lf 3=u69:=(rfl)
def Mb:aH:=fun id=>match id with
 | 6=>u70
 | _=> []
theorem aao:Mb 6=u70:=(rfl)
def Mh:aH:=fun id=>match id with
 | 1=>u71
 | _=> []
theorem X9:Mh 1=u71:=(rfl)
def Hc:aH:=fun id=>match id with
 | 5=>Zi
 | 7=>u73
 | _=> []
theorem aaz:Hc 5=Zi:=(rfl)
theorem aad:Hc 7=u73:=(rfl)
def Me:aH:=fun id=>match id with
 | 1=>u74
 | _=> []
theorem Xo:Me 1=u74:=(rfl)
def La:aH:=fun id=>match id with
 | 1=>u75
 | _=> []
theorem ZY:La 1=u75:=(rfl)
def Lt:aH:=fun id=>match id with
 | 7=>u76
 | _=> []
theorem XZ:Lt 7=u76:=(rfl)
def Lw:aH:=fun id=>match id with
 | 10=>u77
 | _=> []
theorem SE:Lw 10=u77:=(rfl)
def Ma:aH:=fun id=>match id with
 | 10=>u78
 | _=> []
theorem Wv:Ma 10=u78:=(rfl)
def L4:aH:=fun id=>match id with
 | 2=>u79
 | _=> []
theorem Yj:L4 2=u79:=(rfl)
def L2:aH:=fun id=>match id with
 | 6=>u80
 | _=> []
theorem Xk:L2 6=u80:=(rfl)
def Gf:aH:=fun id=>match id with
 | 3=>u81
 | 4=>u82
 | _=> []
theorem Yy:Gf 3=u81:=(rfl)
theorem YZ:Gf 4=u82:=(rfl)
def L3:aH:=fun id=>match id with
 | 1=>u83
 | _=> []
theorem YR:L3 1=u83:=(rfl)
def LF:aH:=fun id=>match id with
 | 1=>u84
 | _=> []
theorem X4:LF 1=u84:=(rfl)
def LZ:aH:=fun id=>match id with
 | 4=>Zi
 | _=> []
theorem ZP:LZ 4=Zi:=(rfl)
theorem YS:eW Tryz.prog 157 u σ F=fP u σ (some 1) F:=aQ zk
theorem W9:fJ Tryz.prog 157 u v σ ks=bN v fun c=>aI c 1 (ir u σ c ks):=bc zk
theorem Vk {ps:List (Nat×V)}:fW Tryz.prog 27 1 ps σ kv=eQ 1 0 ps fun l=>aI l 1 (bw σ (.row 1 l) fun o σ'=>kv true (.sl o 1 0 1) σ'):=cO (et:=67) zk ⟨by kernel_rfl,by decide,by decide⟩
theorem Z2:dx Tryz.prog 157 σ kv=aB ([.slice none 0 0]:List Value) (bw σ (.cells (([.slice none 0 0]:List Value).map V.lit)) fun o σ'=>kv true (.ref o 0 0 0) σ'):=bE zk
theorem Zz:eW Tryz.prog 321 u σ F=fP u σ (some 4) F:=aQ zk
theorem Zq:fJ Tryz.prog 321 u v σ ks=bN v fun c=>aI c 4 (ir u σ c ks):=bc zk
theorem OK:aJ Tryz.prog 321 (.ref o z i' off) 3 F=F true (.ref o z i' (off+3)):=an (x:=3) (ag:=true) (m:=1) zk
theorem Qz:aJ Tryz.prog 321 (.ref o z i' off) 1 F=F true (.ref o z i' (off+1)):=an (x:=1) (ag:=false) (m:=1) zk
theorem aeQ:fJ Tryz.prog 3 u v σ ks=bN v fun c=>aI c 1 (ir u σ c ks):=bc zk
theorem Qm:aJ Tryz.prog 321 (.ref o z i' off) 0 F=F true (.ref o z i' off):=an (x:=0) (ag:=false) (m:=1) zk
theorem aeV:eW Tryz.prog 3 u σ F=fP u σ (none) F:=aQ zk
theorem Qt:aJ Tryz.prog 321 (.ref o z i' off) 2 F=F true (.ref o z i' (off+2)):=an (x:=2) (ag:=true) (m:=1) zk
theorem Yl:dx Tryz.prog 321 σ kv=aB ([.int .i64 0,.int .i64 0,.slice none 0 0,.slice none 0 0]:List Value) (bw σ (.cells (([.int .i64 0,.int .i64 0,.slice none 0 0,.slice none 0 0]:List Value).map V.lit)) fun o σ'=>kv true (.ref o 0 0 0) σ'):=bE zk
theorem Ra (h:m<l.length):cE Tryz.prog 100 (.row 1 l) (.lit (.int i (m:Int))) F=F true (.rref 1 l m 0):=dk (et:=3) zk zd h
theorem Yf:ec Tryz.prog e .len [100] [.row m l] σ kv=eY (.row m l) fun τ v=>kv τ v σ:=dD zk
theorem RE {ps:List (Nat×V)}:fW Tryz.prog 100 1 ps σ kv=eQ 1 0 ps fun l=>aI l 1 (bw σ (.row 1 l) fun o σ'=>kv true (.sl o 1 0 1) σ'):=cO (et:=3) zk ⟨by kernel_rfl,by decide,by decide⟩
theorem Rj (h:0≤a∧a≤18446744073709551615):lT Tryz.prog 3 67 (.lit (.int i a)) F=F true (.lit (.int .u64 a)):=jR zk zk h
theorem S3:fN Tryz.prog 3 67 (.lit (.int i a)) σ F=F true (.lit (.int .u64 (IntKind.wrap .u64 a))):=(eS zk).trans (ku zk zk)
theorem Po (h:0≤a∧a≤18446744073709551615):fN Tryz.prog 3 67 (.lit (.int i a)) σ F=F true (.lit (.int .u64 a)):=(eS zk).trans (jR zk zk h)
theorem VM:mN Tryz.prog 3 67 u σ kv=fN Tryz.prog 3 67 u σ fun τ u=>kv τ u σ:=fF zk
theorem QX:aJ Tryz.prog 157 (.ref o z i' off) 0 F=F true (.ref o z i' off):=an (x:=0) (ag:=false) (m:=1) zk
theorem ade:eW Tryz.prog 27 u σ F=fP u σ (none) F:=aQ zk
theorem acK (h:0≤a∧a<len):cE Tryz.prog 27 (.sl o 1 off len) (.lit (.int i a)) F=F true (.ref o 1 (off+a.toNat) 0):=tB (et:=67) zk h
theorem aaG (h:m<len):cE Tryz.prog 27 (.sl o 1 off len) (.lit (.int i (m:Int))) F=F true (.ref o 1 (off+m) 0):=lS (et:=67) zk h
theorem Y7 (h:0≤a∧a<l.length):cE Tryz.prog 27 (.row 1 l) (.lit (.int i a)) F=F true (.rref 1 l a.toNat 0):=vW (et:=67) zk zd h
theorem Uw (h:m<l.length):cE Tryz.prog 27 (.row 1 l) (.lit (.int i (m:Int))) F=F true (.rref 1 l m 0):=dk (et:=67) zk zd h
theorem aas (h:0≤a∧a<L.length):cE Tryz.prog 27 (.row 1 (L.map f)) (.lit (.int i a)) F=F true (.rref 1 (L.map f) a.toNat 0):=kz (et:=67) zk zd h
theorem aby:eW Tryz.prog 67 u σ F=fP u σ (none) F:=aQ zk
theorem acg:ec Tryz.prog e .len [27] [.row m l] σ kv=eY (.row m l) fun τ v=>kv τ v σ:=dD zk
theorem Zc:ec Tryz.prog e .len [27] [.sl o m off len] σ kv=eY (.sl o m off len) fun τ v=>kv τ v σ:=km zk
theorem P6 (h: -9223372036854775808≤a∧a≤9223372036854775807):fN Tryz.prog 67 3 (.lit (.int i a)) σ F=F true (.lit (.int .i64 a)):=(eS zk).trans (vf zk zk h)
theorem Ux:mN Tryz.prog 67 3 u σ kv=fN Tryz.prog 67 3 u σ fun τ u=>kv τ u σ:=fF zk
theorem acR:fJ Tryz.prog 67 u v σ ks=bN v fun c=>aI c 1 (ir u σ c ks):=bc zk
theorem zw {P:Program} {t:TypeId}:aL P .and t (.lit (.int .u64 a)) (.lit (.int .u64 4294967295)) F=F true (.lit (.int .u64 (a%4294967296))):=cP 32 zd zd zd
theorem DL {P:Program} {t:TypeId}:aL P .shr t (.lit (.int .u64 a)) (.lit (.int .u64 32)) F=F true (.lit (.int .u64 (a/4294967296))):=by rw[eT zd];rfl
theorem Mw (h:0≤a∧a≤18446744073709551615):lT Tryz.prog 3 202 (.lit (.int i a)) F=F true (.lit (.int .u64 a)):=jR zk zk h
theorem Oh (h:0≤a∧a≤18446744073709551615):fN Tryz.prog 3 202 (.lit (.int i a)) σ F=F true (.lit (.int .u64 a)):=(eS zk).trans (jR zk zk h)
theorem QT:mN Tryz.prog 3 202 u σ kv=fN Tryz.prog 3 202 u σ fun τ u=>kv τ u σ:=fF zk
theorem Qs:aJ Tryz.prog 232 (.ref o z i' off) 1 F=F true (.ref o z i' (off+1)):=an (x:=1) (ag:=false) (m:=1) zk
theorem aey:eW Tryz.prog 4 u σ F=fP u σ (none) F:=aQ zk
theorem Yu:fJ Tryz.prog 232 u v σ ks=bN v fun c=>aI c 2 (ir u σ c ks):=bc zk
theorem Px:aJ Tryz.prog 232 (.ref o z i' off) 0 F=F true (.ref o z i' off):=an (x:=0) (ag:=true) (m:=1) zk
theorem abp {x y:Bool}:aL Tryz.prog .eql 4 (.lit (.bool x)) (.lit (.bool y)) F=F true (.lit (.bool (x==y))):=Es zk
theorem ZM:dx Tryz.prog 232 σ kv=aB ([.slice none 0 0,.bool false]:List Value) (bw σ (.cells (([.slice none 0 0,.bool false]:List Value).map V.lit)) fun o σ'=>kv true (.ref o 0 0 0) σ'):=bE zk
theorem abO:nO Tryz.prog 27 u v σ kv=jm 1 8 [.int .u64 0] u v σ kv:=mj (et:=67) zk zk zk
theorem NS (h:0≤a∧a*8≤140737488355328):jm 1 8 [.int .u64 0] (.lit (.int .i64 a)) (.lit (.int .i64 a)) σ kv=bw σ (.row 1 (dy [.int .u64 0] a.toNat)) fun o σ'=>kv true (.sl o 1 0 a.toNat) σ':=by
 rw[oD (C:=[.int .u64 0]) (z:=1) ⟨h.1,rfl,h.2,by omega,by decide⟩ rfl];simp[aB,bj]
theorem Yd (h:m*8≤140737488355328):jm 1 8 [.int .u64 0] (.lit (.int .i64 (m:Int))) (.lit (.int .i64 (m:Int))) σ kv=bw σ (.row 1 (dy [.int .u64 0] m)) fun o σ'=>kv true (.sl o 1 0 m) σ':=NS zo
theorem abV:lX Tryz.prog 27 (.sl o 1 off len) lo hi none F=dW hi len len fun h=>dW lo 0 h fun l=>F true (.sl o 1 (off+l) (h-l)):=H3 (et:=67) zk
theorem YD:lX Tryz.prog 27 (.row 1 (L.map f)) lo hi none F=dW hi L.length L.length fun h=>dW lo 0 h fun x=>F true (.row 1 (((L.take h).drop x).map f)):=rZ (et:=67) zk
theorem XN {ps:List (Nat×V)}:dA Tryz.prog 157 ps F=aB ([.slice none 0 0]:List Value) (av (aF Tryz.prog 157) ps (([.slice none 0 0]:List Value).map V.lit) fun l=>F true (.agg l)):=bA zk zk zk
theorem Ps:aJ Tryz.prog 234 (.ref o z i' off) 1 F=F true (.ref o z i' (off+2)):=an (x:=2) (ag:=true) (m:=1) zk
theorem adk {x y:Bool}:aL Tryz.prog .neq 4 (.lit (.bool x)) (.lit (.bool y)) F=F true (.lit (.bool (!(x==y)))):=Ht zk
theorem RA:aJ Tryz.prog 234 (.ref o z i' off) 0 F=F true (.ref o z i' off):=an (x:=0) (ag:=true) (m:=2) zk
theorem YP:eW Tryz.prog 232 u σ F=fP u σ (some 2) F:=aQ zk
theorem YC:eW Tryz.prog 234 u σ F=fP u σ (some 3) F:=aQ zk
theorem XQ:fJ Tryz.prog 234 u v σ ks=bN v fun c=>aI c 3 (ir u σ c ks):=bc zk
theorem Z1:dx Tryz.prog 234 σ kv=aB ([.slice none 0 0,.bool false,.slice none 0 0]:List Value) (bw σ (.cells (([.slice none 0 0,.bool false,.slice none 0 0]:List Value).map V.lit)) fun o σ'=>kv true (.ref o 0 0 0) σ'):=bE zk
theorem ZW {ps:List (Nat×V)}:dA Tryz.prog 232 ps F=aB ([.slice none 0 0,.bool false]:List Value) (av (aF Tryz.prog 232) ps (([.slice none 0 0,.bool false]:List Value).map V.lit) fun l=>F true (.agg l)):=bA zk zk zk
theorem Zr:eW Tryz.prog 131 u σ F=fP u σ (some 3) F:=aQ zk
theorem YQ:fJ Tryz.prog 131 u v σ ks=bN v fun c=>aI c 3 (ir u σ c ks):=bc zk
theorem RQ:aJ Tryz.prog 131 (.ref o z i' off) 1 F=F true (.ref o z i' (off+1)):=an (x:=1) (ag:=false) (m:=1) zk
theorem Qq:aJ Tryz.prog 131 (.ref o z i' off) 0 F=F true (.ref o z i' off):=an (x:=0) (ag:=false) (m:=1) zk
theorem aab:dx Tryz.prog 131 σ kv=aB ([.int .i64 0,.int .i64 0,.bool false]:List Value) (bw σ (.cells (([.int .i64 0,.int .i64 0,.bool false]:List Value).map V.lit)) fun o σ'=>kv true (.ref o 0 0 0) σ'):=bE zk
theorem XV:eW Tryz.prog 274 u σ F=fP u σ (some 256) F:=aQ zk
theorem ZZ:fJ Tryz.prog 274 u v σ ks=bN v fun c=>aI c 256 (ir u σ c ks):=bc zk
theorem YT (h:0≤a∧a<256):cE Tryz.prog 274 (.ref o 0 0 off) (.lit (.int i a)) F=F true (.ref o 1 a.toNat off):=ID (et:=198) zk h
theorem Ty (h:m<256):cE Tryz.prog 274 (.ref o 0 0 off) (.lit (.int i (m:Int))) F=F true (.ref o 1 m off):=G2 (et:=198) zk h
theorem XG:fJ Tryz.prog 198 u v σ ks=bN v fun c=>aI c 1 (ir u σ c ks):=bc zk
theorem FZ {P:Program} {t:TypeId}:aL P .shr t (.lit (.int .u32 a)) (.lit (.int .u64 1)) F=F true (.lit (.int .u32 (a/2))):=by rw[lV zd];rfl
theorem R9 {P:Program} {t:TypeId}:aL P .and t (.lit (.int .u32 a)) (.lit (.int .u32 1)) F=F true (.lit (.int .u32 (a%2))):=cP 1 zd zd zd
theorem NC (h:0≤a∧a≤4294967295):fN Tryz.prog 3 198 (.lit (.int i a)) σ F=F true (.lit (.int .u32 a)):=(eS zk).trans (Fx zk zk h)
theorem Pa:mN Tryz.prog 3 198 u σ kv=fN Tryz.prog 3 198 u σ fun τ u=>kv τ u σ:=fF zk
theorem Xn:dx Tryz.prog 274 σ kv=aB ((List.replicate 256 (.int .u32 0)):List Value) (bw σ (.cells (((List.replicate 256 (.int .u32 0)):List Value).map V.lit)) fun o σ'=>kv true (.ref o 0 0 0) σ'):=bE zk
theorem Ph:fN Tryz.prog 198 5 (.lit (.int i a)) σ F=F true (.lit (.int .u8 (IntKind.wrap .u8 a))):=(eS zk).trans (ku zk zk)
theorem Rv:mN Tryz.prog 198 5 u σ kv=fN Tryz.prog 198 5 u σ fun τ u=>kv τ u σ:=fF zk
theorem LR {s:ByteArray} (h:0≤a∧a<s.size):t9 Tryz.prog 9 (.lit (.string s)) (.lit (.int i a)) F=F true (.lit (.int .u8 (pD s a.toNat))):=DZ zk h
theorem WI (h: -9223372036854775808≤a∧a≤9223372036854775807):fN Tryz.prog 5 3 (.lit (.int i a)) σ F=F true (.lit (.int .i64 a)):=(eS zk).trans (vf zk zk h)
theorem aaf:mN Tryz.prog 5 3 u σ kv=fN Tryz.prog 5 3 u σ fun τ u=>kv τ u σ:=fF zk
theorem FE {P:Program} {t:TypeId}:aL P .shr t (.lit (.int .u32 a)) (.lit (.int .u64 8)) F=F true (.lit (.int .u32 (a/256))):=by rw[lV zd];rfl
theorem ox {P:Program} {t:TypeId}:aL P .and t (.lit (.int .u64 a)) (.lit (.int .u64 2305843009213693951)) F=F true (.lit (.int .u64 (a%2305843009213693952))):=cP 61 zd zd zd
theorem D7 {P:Program} {t:TypeId}:aL P .shl t (.lit (.int .u64 a)) (.lit (.int .u64 3)) F=F true (.lit (.int .u64 (IntKind.wrap .u64 (a*8)))):=by rw[mL zd];rfl
theorem DU {P:Program} {t:TypeId}:aL P .shr t (.lit (.int .u64 a)) (.lit (.int .u64 61)) F=F true (.lit (.int .u64 (a/2305843009213693952))):=by rw[eT zd];rfl
theorem PM:aJ Tryz.prog 151 (.ref o z i' off) 0 F=F true (.ref o z i' off):=an (x:=0) (ag:=false) (m:=1) zk
theorem RD:aJ Tryz.prog 151 (.ref o z i' off) 1 F=F true (.ref o z i' (off+1)):=an (x:=1) (ag:=false) (m:=1) zk
theorem aaE {ps:List (Nat×V)}:dA Tryz.prog 151 ps F=aB ([.int .i64 0,.int .i64 0]:List Value) (av (aF Tryz.prog 151) ps (([.int .i64 0,.int .i64 0]:List Value).map V.lit) fun l=>F true (.agg l)):=bA zk zk zk
theorem PC {r:List (Nat×V)} {G:List V→Prop}:av (aF Tryz.prog 151) ((0,u)::r) us G=bN u fun c=>aI c 1 (da us 0 c fun l'=>av (aF Tryz.prog 151) r l' G):=au zk
theorem PZ {r:List (Nat×V)} {G:List V→Prop}:av (aF Tryz.prog 151) ((1,u)::r) us G=bN u fun c=>aI c 1 (da us 1 c fun l'=>av (aF Tryz.prog 151) r l' G):=au zk
theorem aaa:fJ Tryz.prog 151 u v σ ks=bN v fun c=>aI c 2 (ir u σ c ks):=bc zk
theorem Ri:aJ Tryz.prog 161 (.ref o z i' off) 0 F=F true (.ref o z i' off):=an (x:=0) (ag:=true) (m:=3) zk
theorem OR:aJ Tryz.prog 161 (.rref z l i' off) 0 F=F true (.rref z l i' off):=bm (x:=0) (ag:=true) (m:=3) zk
theorem aaU:eW Tryz.prog 81 u σ F=fP u σ (some 3) F:=aQ zk
theorem Xj:dx Tryz.prog 151 σ kv=aB ([.int .i64 0,.int .i64 0]:List Value) (bw σ (.cells (([.int .i64 0,.int .i64 0]:List Value).map V.lit)) fun o σ'=>kv true (.ref o 0 0 0) σ'):=bE zk
theorem XC {ps:List (Nat×V)}:dA Tryz.prog 234 ps F=aB ([.slice none 0 0,.bool false,.slice none 0 0]:List Value) (av (aF Tryz.prog 234) ps (([.slice none 0 0,.bool false,.slice none 0 0]:List Value).map V.lit) fun l=>F true (.agg l)):=bA zk zk zk
theorem OB {r:List (Nat×V)} {G:List V→Prop}:av (aF Tryz.prog 234) ((0,u)::r) us G=bN u fun c=>aI c 2 (da us 0 c fun l'=>av (aF Tryz.prog 234) r l' G):=au zk
theorem PD {r:List (Nat×V)} {G:List V→Prop}:av (aF Tryz.prog 234) ((1,u)::r) us G=bN u fun c=>aI c 1 (da us 2 c fun l'=>av (aF Tryz.prog 234) r l' G):=au zk
theorem PU:aJ Tryz.prog 134 (.ref o z i' off) 0 F=F true (.ref o z i' off):=an (x:=0) (ag:=false) (m:=1) zk
theorem OF:aJ Tryz.prog 131 (.ref o z i' off) 2 F=F true (.ref o z i' (off+2)):=an (x:=2) (ag:=false) (m:=1) zk
theorem adE:fJ Tryz.prog 4 u v σ ks=bN v fun c=>aI c 1 (ir u σ c ks):=bc zk
theorem PX:aJ Tryz.prog 134 (.ref o z i' off) 1 F=F true (.ref o z i' (off+1)):=an (x:=1) (ag:=false) (m:=1) zk
theorem RB:aJ Tryz.prog 143 (.ref o z i' off) 0 F=F true (.ref o z i' off):=an (x:=0) (ag:=false) (m:=1) zk
theorem Pk:aJ Tryz.prog 143 (.ref o z i' off) 1 F=F true (.ref o z i' (off+1)):=an (x:=1) (ag:=false) (m:=1) zk
theorem RK:aJ Tryz.prog 143 (.ref o z i' off) 2 F=F true (.ref o z i' (off+2)):=an (x:=2) (ag:=false) (m:=1) zk
theorem Wg {s:TypeId} {b:Value}:lE Tryz.prog .eql 222 (.const .nilIface) (.lit (.iface s b)) (.lit .nilIface) F=F true (.lit (.bool false)):=Gw zk
theorem YK:eW Tryz.prog 143 u σ F=fP u σ (some 3) F:=aQ zk
theorem RN:aJ Tryz.prog 169 (.ref o z i' off) 0 F=F true (.ref o z i' off):=an (x:=0) (ag:=true) (m:=2) zk
theorem Xt:eW Tryz.prog 167 u σ F=fP u σ (some 2) F:=aQ zk
theorem V7 {ps:List (Nat×V)}:fW Tryz.prog 90 1 ps σ kv=eQ 2 0 ps fun l=>aI l 1 (bw σ (.row 2 l) fun o σ'=>kv true (.sl o 2 0 1) σ'):=cO (et:=167) zk ⟨by kernel_rfl,by decide,by decide⟩
theorem P3:lG Tryz.prog e 90 90 u v σ kv=gM v σ 2 fun m=>mZ e 2 16 u m σ kv:=fU (et:=167) (ex:=167) (C:=[.int .u64 0,.int .u64 0]) zk zk zk zk zd rfl
theorem UY (h:m<len):cE Tryz.prog 163 (.sl o 3 off len) (.lit (.int i (m:Int))) F=F true (.ref o 3 (off+m) 0):=lS (et:=169) zk h
theorem RT (h:m<l.length):cE Tryz.prog 163 (.row 3 l) (.lit (.int i (m:Int))) F=F true (.rref 3 l m 0):=dk (et:=169) zk zd h
theorem aaw:eW Tryz.prog 169 u σ F=fP u σ (some 3) F:=aQ zk
theorem aam:dx Tryz.prog 169 σ kv=aB ([.int .u64 0,.int .u64 0,.pointer none]:List Value) (bw σ (.cells (([.int .u64 0,.int .u64 0,.pointer none]:List Value).map V.lit)) fun o σ'=>kv true (.ref o 0 0 0) σ'):=bE zk
theorem YV:fJ Tryz.prog 169 u v σ ks=bN v fun c=>aI c 3 (ir u σ c ks):=bc zk
theorem Q8:aJ Tryz.prog 165 (.ref o z i' off) 1 F=F true (.ref o z i' (off+5)):=an (x:=5) (ag:=false) (m:=1) zk
theorem R5:aJ Tryz.prog 165 (.rref z l i' off) 1 F=F true (.rref z l i' (off+5)):=bm (x:=5) (ag:=false) (m:=1) zk
theorem YW:eW Tryz.prog 163 u σ F=fP u σ (none) F:=aQ zk
theorem Yr:ec Tryz.prog e .len [163] [.row m l] σ kv=eY (.row m l) fun τ v=>kv τ v σ:=dD zk
theorem Wd:ec Tryz.prog e .len [163] [.sl o m off len] σ kv=eY (.sl o m off len) fun τ v=>kv τ v σ:=km zk
theorem Sm (h:m<l.length):cE Tryz.prog 90 (.row 2 l) (.lit (.int i (m:Int))) F=F true (.rref 2 l m 0):=dk (et:=167) zk zd h
theorem WU {vs:List V}:aL Tryz.prog .neq 167 (.agg us) (.agg vs) F=jE [true,true] us vs fun r=>dp (w9 .neq r) F:=fD zk
theorem abL:ec Tryz.prog e .len [90] [.row m l] σ kv=eY (.row m l) fun τ v=>kv τ v σ:=dD zk
theorem LW {P:Program} {t:TypeId}:aL P .and t (.lit (.int .u64 a)) (.lit (.int .u64 127)) F=F true (.lit (.int .u64 (a%128))):=cP 7 zd zd zd
theorem aaD:eW Tryz.prog 198 u σ F=fP u σ (none) F:=aQ zk
theorem acu (h:0≤a∧a<len):cE Tryz.prog 47 (.sl o 1 off len) (.lit (.int i a)) F=F true (.ref o 1 (off+a.toNat) 0):=tB (et:=5) zk h
theorem YG (h:0≤a∧a<l.length):cE Tryz.prog 47 (.row 1 l) (.lit (.int i a)) F=F true (.rref 1 l a.toNat 0):=vW (et:=5) zk zd h
theorem Vq (h:m<l.length):cE Tryz.prog 47 (.row 1 l) (.lit (.int i (m:Int))) F=F true (.rref 1 l m 0):=dk (et:=5) zk zd h
theorem ZX (h:0≤a∧a<L.length):cE Tryz.prog 47 (.row 1 (L.map f)) (.lit (.int i a)) F=F true (.rref 1 (L.map f) a.toNat 0):=kz (et:=5) zk zd h
theorem aee:eW Tryz.prog 5 u σ F=fP u σ (none) F:=aQ zk
theorem acC:ec Tryz.prog e .len [47] [.row m l] σ kv=eY (.row m l) fun τ v=>kv τ v σ:=dD zk
theorem Yq:ec Tryz.prog e .len [47] [.sl o m off len] σ kv=eY (.sl o m off len) fun τ v=>kv τ v σ:=km zk
theorem QB:aJ Tryz.prog 195 (.ref o z i' off) 2 F=F true (.ref o z i' (off+2)):=an (x:=2) (ag:=false) (m:=1) zk
theorem OV:aJ Tryz.prog 195 (.rref z l i' off) 2 F=F true (.rref z l i' (off+2)):=bm (x:=2) (ag:=false) (m:=1) zk
theorem ZT:eW Tryz.prog 134 u σ F=fP u σ (some 2) F:=aQ zk
theorem ac6:eW Tryz.prog 34 u σ F=fP u σ (some 3) F:=aQ zk
theorem Xe {ps:List (Nat×V)}:dA Tryz.prog 195 ps F=aB ([.slice none 0 0,.int .i64 0,.int .i64 0]:List Value) (av (aF Tryz.prog 195) ps (([.slice none 0 0,.int .i64 0,.int .i64 0]:List Value).map V.lit) fun l=>F true (.agg l)):=bA zk zk zk
theorem Rr {r:List (Nat×V)} {G:List V→Prop}:av (aF Tryz.prog 195) ((0,u)::r) us G=bN u fun c=>aI c 1 (da us 0 c fun l'=>av (aF Tryz.prog 195) r l' G):=au zk
theorem PF {r:List (Nat×V)} {G:List V→Prop}:av (aF Tryz.prog 195) ((1,u)::r) us G=bN u fun c=>aI c 1 (da us 1 c fun l'=>av (aF Tryz.prog 195) r l' G):=au zk
theorem Rz {r:List (Nat×V)} {G:List V→Prop}:av (aF Tryz.prog 195) ((2,u)::r) us G=bN u fun c=>aI c 1 (da us 2 c fun l'=>av (aF Tryz.prog 195) r l' G):=au zk
theorem O6:aJ Tryz.prog 128 (.ref o z i' off) 1 F=F true (.ref o z i' (off+2)):=an (x:=2) (ag:=false) (m:=1) zk
theorem abo:eW Tryz.prog 30 u σ F=fP u σ (none) F:=aQ zk
theorem PH:aJ Tryz.prog 128 (.ref o z i' off) 0 F=F true (.ref o z i' off):=an (x:=0) (ag:=true) (m:=2) zk
theorem Rw:aJ Tryz.prog 126 (.ref o z i' off) 0 F=F true (.ref o z i' off):=an (x:=0) (ag:=false) (m:=1) zk
theorem Xy (h:0≤a∧a<L.length):cE Tryz.prog 30 (.row 1 (L.map f)) (.lit (.int i a)) F=F true (.rref 1 (L.map f) a.toNat 0):=kz (et:=4) zk zd h
theorem PN:aJ Tryz.prog 126 (.ref o z i' off) 1 F=F true (.ref o z i' (off+1)):=an (x:=1) (ag:=false) (m:=1) zk
theorem aba:ec Tryz.prog e .len [30] [.row m l] σ kv=eY (.row m l) fun τ v=>kv τ v σ:=dD zk
theorem RZ:aJ Tryz.prog 167 (.ref o z i' off) 0 F=F true (.ref o z i' off):=an (x:=0) (ag:=false) (m:=1) zk
theorem Q3:aJ Tryz.prog 167 (.ref o z i' off) 1 F=F true (.ref o z i' (off+1)):=an (x:=1) (ag:=false) (m:=1) zk
theorem Rq:aJ Tryz.prog 161 (.ref o z i' off) 1 F=F true (.ref o z i' (off+3)):=an (x:=3) (ag:=false) (m:=1) zk
theorem QP:aJ Tryz.prog 161 (.rref z l i' off) 1 F=F true (.rref z l i' (off+3)):=bm (x:=3) (ag:=false) (m:=1) zk
theorem YA:eW Tryz.prog 159 u σ F=fP u σ (none) F:=aQ zk
theorem aaH:eW Tryz.prog 151 u σ F=fP u σ (some 2) F:=aQ zk
theorem TO (h:m<len):cE Tryz.prog 159 (.sl o 2 off len) (.lit (.int i (m:Int))) F=F true (.ref o 2 (off+m) 0):=lS (et:=151) zk h
theorem OX (h:m<l.length):cE Tryz.prog 159 (.row 2 l) (.lit (.int i (m:Int))) F=F true (.rref 2 l m 0):=dk (et:=151) zk zd h
theorem Qj:aJ Tryz.prog 161 (.ref o z i' off) 2 F=F true (.ref o z i' (off+4)):=an (x:=4) (ag:=false) (m:=1) zk
theorem OG:aJ Tryz.prog 161 (.rref z l i' off) 2 F=F true (.rref z l i' (off+4)):=bm (x:=4) (ag:=false) (m:=1) zk
theorem YH:ec Tryz.prog e .len [159] [.row m l] σ kv=eY (.row m l) fun τ v=>kv τ v σ:=dD zk
theorem Tr:ec Tryz.prog e .len [159] [.sl o m off len] σ kv=eY (.sl o m off len) fun τ v=>kv τ v σ:=km zk
theorem WD:aJ Tryz.prog 81 (.ref o z i' off) 0 F=F true (.ref o z i' off):=an (x:=0) (ag:=false) (m:=1) zk
theorem Sl:aJ Tryz.prog 81 (.rref z l i' off) 0 F=F true (.rref z l i' off):=bm (x:=0) (ag:=false) (m:=1) zk
theorem WJ:aJ Tryz.prog 81 (.ref o z i' off) 1 F=F true (.ref o z i' (off+1)):=an (x:=1) (ag:=false) (m:=1) zk
theorem WM:aJ Tryz.prog 81 (.rref z l i' off) 1 F=F true (.rref z l i' (off+1)):=bm (x:=1) (ag:=false) (m:=1) zk
theorem Wi {ps:List (Nat×V)}:fW Tryz.prog 27 0 ps σ kv=eQ 1 0 ps fun l=>aI l 0 (bw σ (.row 1 l) fun o σ'=>kv true (.sl o 1 0 0) σ'):=cO (et:=67) zk ⟨by kernel_rfl,by decide,by decide⟩
theorem Q4:lG Tryz.prog e 27 27 u v σ kv=gM v σ 1 fun m=>mZ e 1 8 u m σ kv:=fU (et:=67) (ex:=67) (C:=[.int .u64 0]) zk zk zk zk zd rfl
theorem Xf:aL Tryz.prog .eql 27 (.row 1 l) (.lit (.slice none 0 0)) F=m9 .eql l.isEmpty F:=iP ⟨by kernel_rfl,by decide⟩
theorem QR {r:List (Nat×V)} {G:List V→Prop}:av (aF Tryz.prog 157) ((0,u)::r) us G=bN u fun c=>aI c 1 (da us 0 c fun l'=>av (aF Tryz.prog 157) r l' G):=au zk
theorem O5 {r:List (Nat×V)} {G:List V→Prop}:av (aF Tryz.prog 232) ((0,u)::r) us G=bN u fun c=>aI c 1 (da us 0 c fun l'=>av (aF Tryz.prog 232) r l' G):=au zk
theorem ON {r:List (Nat×V)} {G:List V→Prop}:av (aF Tryz.prog 232) ((1,u)::r) us G=bN u fun c=>aI c 1 (da us 1 c fun l'=>av (aF Tryz.prog 232) r l' G):=au zk
theorem RH:aJ Tryz.prog 195 (.ref o z i' off) 0 F=F true (.ref o z i' off):=an (x:=0) (ag:=false) (m:=1) zk
theorem QQ:aJ Tryz.prog 195 (.rref z l i' off) 0 F=F true (.rref z l i' off):=bm (x:=0) (ag:=false) (m:=1) zk
theorem PA:aJ Tryz.prog 195 (.ref o z i' off) 1 F=F true (.ref o z i' (off+1)):=an (x:=1) (ag:=false) (m:=1) zk
theorem Oz:aJ Tryz.prog 195 (.rref z l i' off) 1 F=F true (.rref z l i' (off+1)):=bm (x:=1) (ag:=false) (m:=1) zk
theorem XP:eW Tryz.prog 222 u σ F=fP u σ (none) F:=aQ zk
theorem ads:eW Tryz.prog 61 u σ F=fP u σ (none) F:=aQ zk
theorem Xu:eW Tryz.prog 140 u σ F=fP u σ (some 2) F:=aQ zk
theorem XX:fJ Tryz.prog 140 u v σ ks=bN v fun c=>aI c 2 (ir u σ c ks):=bc zk
theorem QF:aJ Tryz.prog 140 (.ref o z i' off) 0 F=F true (.ref o z i' off):=an (x:=0) (ag:=false) (m:=1) zk
theorem Q7:aJ Tryz.prog 140 (.ref o z i' off) 1 F=F true (.ref o z i' (off+1)):=an (x:=1) (ag:=false) (m:=1) zk
theorem Ye:dx Tryz.prog 140 σ kv=aB ([.int .i64 0,.bool false]:List Value) (bw σ (.cells (([.int .i64 0,.bool false]:List Value).map V.lit)) fun o σ'=>kv true (.ref o 0 0 0) σ'):=bE zk
theorem XA:tj Tryz.prog 259 (.lit (.int i a)) F=F true (.lit (.iface 259 (.int i a))):=tC (k:=Go.IntKind.i64) zk
theorem L9:oh Tryz.prog e (.lit (.iface 259 (.int i a))) "tallymark/chain.good" us σ kv=dv Tryz.prog e 251 (.lit (.int i a)::us) σ kv:=kA zk
theorem Ly:oh Tryz.prog e (.lit (.iface 259 (.int i a))) "tallymark/chain.step" us σ kv=dv Tryz.prog e 253 (.lit (.int i a)::us) σ kv:=kA zk
theorem XF:tj Tryz.prog 258 (.lit (.int i a)) F=F true (.lit (.iface 258 (.int i a))):=tC (k:=Go.IntKind.i64) zk
theorem Lo:oh Tryz.prog e (.lit (.iface 258 (.int i a))) "tallymark/chain.good" us σ kv=dv Tryz.prog e 241 (.lit (.int i a)::us) σ kv:=kA zk
theorem K5:oh Tryz.prog e (.lit (.iface 258 (.int i a))) "tallymark/chain.step" us σ kv=dv Tryz.prog e 243 (.lit (.int i a)::us) σ kv:=kA zk
theorem X6:tj Tryz.prog 257 (.lit (.int i a)) F=F true (.lit (.iface 257 (.int i a))):=tC (k:=Go.IntKind.i64) zk
theorem LG:oh Tryz.prog e (.lit (.iface 257 (.int i a))) "tallymark/chain.good" us σ kv=dv Tryz.prog e 230 (.lit (.int i a)::us) σ kv:=kA zk
theorem Mn:oh Tryz.prog e (.lit (.iface 257 (.int i a))) "tallymark/chain.step" us σ kv=dv Tryz.prog e 232 (.lit (.int i a)::us) σ kv:=kA zk
theorem Pm (h:m<l.length):cE Tryz.prog 256 (.row 3 l) (.lit (.int i (m:Int))) F=F true (.rref 3 l m 0):=dk (et:=131) zk zd h
theorem Yi:ec Tryz.prog e .len [256] [.row m l] σ kv=eY (.row m l) fun τ v=>kv τ v σ:=dD zk
theorem Tn:aJ Tryz.prog 34 (.ref o z i' off) 0 F=F true (.ref o z i' off):=an (x:=0) (ag:=false) (m:=1) zk
theorem Z8 (h:0≤a∧a<len):cE Tryz.prog 171 (.sl o 2 off len) (.lit (.int i a)) F=F true (.ref o 2 (off+a.toNat) 0):=tB (et:=176) zk h
theorem Up (h:m<len):cE Tryz.prog 171 (.sl o 2 off len) (.lit (.int i (m:Int))) F=F true (.ref o 2 (off+m) 0):=lS (et:=176) zk h
theorem Qw (h:m<l.length):cE Tryz.prog 171 (.row 2 l) (.lit (.int i (m:Int))) F=F true (.rref 2 l m 0):=dk (et:=176) zk zd h
theorem XL:eW Tryz.prog 176 u σ F=fP u σ (some 2) F:=aQ zk
theorem SA {vs:List V}:aL Tryz.prog .neq 176 (.agg us) (.agg vs) F=jE [true,true] us vs fun r=>dp (w9 .neq r) F:=fD zk
theorem Za:ec Tryz.prog e .len [171] [.row m l] σ kv=eY (.row m l) fun τ v=>kv τ v σ:=dD zk
theorem Vb:ec Tryz.prog e .len [171] [.sl o m off len] σ kv=eY (.sl o m off len) fun τ v=>kv τ v σ:=km zk
theorem Qi:aJ Tryz.prog 165 (.ref o z i' off) 0 F=F true (.ref o z i' off):=an (x:=0) (ag:=true) (m:=5) zk
theorem QO:aJ Tryz.prog 165 (.rref z l i' off) 0 F=F true (.rref z l i' off):=bm (x:=0) (ag:=true) (m:=5) zk
theorem abF:eW Tryz.prog 88 u σ F=fP u σ (some 5) F:=aQ zk
theorem Zv {vs:List V}:aL Tryz.prog .eql 88 (.agg us) (.agg vs) F=jE [true,true,true,true,true] us vs fun r=>dp (w9 .eql r) F:=fD zk
theorem Pj:aJ Tryz.prog 169 (.ref o z i' off) 1 F=F true (.ref o z i' (off+2)):=an (x:=2) (ag:=false) (m:=1) zk
theorem abN:eW Tryz.prog 37 u σ F=fP u σ (none) F:=aQ zk
theorem Vc {vs:List V}:aL Tryz.prog .neq 151 (.agg us) (.agg vs) F=jE [true,true] us vs fun r=>dp (w9 .neq r) F:=fD zk
theorem Rh {ps:List (Nat×V)}:fW Tryz.prog 171 0 ps σ kv=eQ 2 0 ps fun l=>aI l 0 (bw σ (.row 2 l) fun o σ'=>kv true (.sl o 2 0 0) σ'):=cO (et:=176) zk ⟨by kernel_rfl,by decide,by decide⟩
theorem LU:lG Tryz.prog e 171 171 u v σ kv=gM v σ 2 fun m=>mZ e 2 16 u m σ kv:=fU (et:=176) (ex:=176) (C:=[.int .u64 0,.int .i64 0]) zk zk zk zk zd rfl
theorem SI:aL Tryz.prog .eql 171 (.row 2 l) (.lit (.slice none 0 0)) F=m9 .eql l.isEmpty F:=iP ⟨by kernel_rfl,by decide⟩
theorem P4 {ps:List (Nat×V)}:fW Tryz.prog 163 0 ps σ kv=eQ 3 0 ps fun l=>aI l 0 (bw σ (.row 3 l) fun o σ'=>kv true (.sl o 3 0 0) σ'):=cO (et:=169) zk ⟨by kernel_rfl,by decide,by decide⟩
theorem LQ:lG Tryz.prog e 163 163 u v σ kv=gM v σ 3 fun m=>mZ e 3 24 u m σ kv:=fU (et:=169) (ex:=169) (C:=[.int .u64 0,.int .u64 0,.pointer none]) zk zk zk zk zd rfl
theorem Uq:aL Tryz.prog .eql 163 (.row 3 l) (.lit (.slice none 0 0)) F=m9 .eql l.isEmpty F:=iP ⟨by kernel_rfl,by decide⟩
theorem Pq {ps:List (Nat×V)}:fW Tryz.prog 159 0 ps σ kv=eQ 2 0 ps fun l=>aI l 0 (bw σ (.row 2 l) fun o σ'=>kv true (.sl o 2 0 0) σ'):=cO (et:=151) zk ⟨by kernel_rfl,by decide,by decide⟩
theorem Mc:lG Tryz.prog e 159 159 u v σ kv=gM v σ 2 fun m=>mZ e 2 16 u m σ kv:=fU (et:=151) (ex:=151) (C:=[.int .i64 0,.int .i64 0]) zk zk zk zk zd rfl
theorem Ul:aL Tryz.prog .eql 159 (.row 2 l) (.lit (.slice none 0 0)) F=m9 .eql l.isEmpty F:=iP ⟨by kernel_rfl,by decide⟩
theorem Qf:aJ Tryz.prog 173 (.ref o z i' off) 1 F=F true (.ref o z i' (off+3)):=an (x:=3) (ag:=false) (m:=1) zk
theorem Qo:aJ Tryz.prog 173 (.rref z l i' off) 1 F=F true (.rref z l i' (off+3)):=bm (x:=3) (ag:=false) (m:=1) zk
theorem Xz:eW Tryz.prog 171 u σ F=fP u σ (none) F:=aQ zk
theorem Yn {ps:List (Nat×V)}:dA Tryz.prog 176 ps F=aB ([.int .u64 0,.int .i64 0]:List Value) (av (aF Tryz.prog 176) ps (([.int .u64 0,.int .i64 0]:List Value).map V.lit) fun l=>F true (.agg l)):=bA zk zk zk
theorem Pe {r:List (Nat×V)} {G:List V→Prop}:av (aF Tryz.prog 176) ((0,u)::r) us G=bN u fun c=>aI c 1 (da us 0 c fun l'=>av (aF Tryz.prog 176) r l' G):=au zk
theorem OP {r:List (Nat×V)} {G:List V→Prop}:av (aF Tryz.prog 176) ((1,u)::r) us G=bN u fun c=>aI c 1 (da us 1 c fun l'=>av (aF Tryz.prog 176) r l' G):=au zk
theorem Z9:fJ Tryz.prog 176 u v σ ks=bN v fun c=>aI c 2 (ir u σ c ks):=bc zk
theorem OM:aJ Tryz.prog 173 (.ref o z i' off) 2 F=F true (.ref o z i' (off+4)):=an (x:=4) (ag:=false) (m:=1) zk
theorem QA:aJ Tryz.prog 173 (.rref z l i' off) 2 F=F true (.rref z l i' (off+4)):=bm (x:=4) (ag:=false) (m:=1) zk
theorem ab6:eW Tryz.prog 93 u σ F=fP u σ (some 3) F:=aQ zk
theorem Z6 {ps:List (Nat×V)}:dA Tryz.prog 169 ps F=aB ([.int .u64 0,.int .u64 0,.pointer none]:List Value) (av (aF Tryz.prog 169) ps (([.int .u64 0,.int .u64 0,.pointer none]:List Value).map V.lit) fun l=>F true (.agg l)):=bA zk zk zk
theorem Qe {r:List (Nat×V)} {G:List V→Prop}:av (aF Tryz.prog 169) ((0,u)::r) us G=bN u fun c=>aI c 2 (da us 0 c fun l'=>av (aF Tryz.prog 169) r l' G):=au zk
theorem Qu {r:List (Nat×V)} {G:List V→Prop}:av (aF Tryz.prog 169) ((1,u)::r) us G=bN u fun c=>aI c 1 (da us 2 c fun l'=>av (aF Tryz.prog 169) r l' G):=au zk
theorem OI {ps:List (Nat×V)}:fW Tryz.prog 163 1 ps σ kv=eQ 3 0 ps fun l=>aI l 1 (bw σ (.row 3 l) fun o σ'=>kv true (.sl o 3 0 1) σ'):=cO (et:=169) zk ⟨by kernel_rfl,by decide,by decide⟩
theorem YY:fJ Tryz.prog 163 u v σ ks=bN v fun c=>aI c 1 (ir u σ c ks):=bc zk
theorem Wh:aJ Tryz.prog 88 (.ref o z i' off) 2 F=F true (.ref o z i' (off+2)):=an (x:=2) (ag:=true) (m:=3) zk
theorem TY:aJ Tryz.prog 88 (.ref o z i' off) 1 F=F true (.ref o z i' (off+1)):=an (x:=1) (ag:=false) (m:=1) zk
theorem ZB:dx Tryz.prog 167 σ kv=aB ([.int .u64 0,.int .u64 0]:List Value) (bw σ (.cells (([.int .u64 0,.int .u64 0]:List Value).map V.lit)) fun o σ'=>kv true (.ref o 0 0 0) σ'):=bE zk
theorem Wq:aJ Tryz.prog 88 (.ref o z i' off) 0 F=F true (.ref o z i' off):=an (x:=0) (ag:=false) (m:=1) zk
theorem X5 {ps:List (Nat×V)}:dA Tryz.prog 165 ps F=aB ([.int .i64 0,.int .i64 0,.int .i64 0,.int .i64 0,.int .i64 0,.slice none 0 0,.int .i64 0]:List Value) (av (aF Tryz.prog 165) ps (([.int .i64 0,.int .i64 0,.int .i64 0,.int .i64 0,.int .i64 0,.slice none 0 0,.int .i64 0]:List Value).map V.lit) fun l=>F true (.agg l)):=bA zk zk zk
theorem PK {r:List (Nat×V)} {G:List V→Prop}:av (aF Tryz.prog 165) ((0,u)::r) us G=bN u fun c=>aI c 5 (da us 0 c fun l'=>av (aF Tryz.prog 165) r l' G):=au zk
theorem VD:aJ Tryz.prog 81 (.ref o z i' off) 2 F=F true (.ref o z i' (off+2)):=an (x:=2) (ag:=false) (m:=1) zk
theorem R6:aJ Tryz.prog 161 (.ref o z i' off) 3 F=F true (.ref o z i' (off+5)):=an (x:=5) (ag:=false) (m:=1) zk
theorem Rm:aJ Tryz.prog 161 (.rref z l i' off) 3 F=F true (.rref z l i' (off+5)):=bm (x:=5) (ag:=false) (m:=1) zk
theorem aa9:eW Tryz.prog 36 u σ F=fP u σ (some 3) F:=aQ zk
theorem abR:dx Tryz.prog 36 σ kv=aB ([.int .i64 0,.int .i64 0,.bool false]:List Value) (bw σ (.cells (([.int .i64 0,.int .i64 0,.bool false]:List Value).map V.lit)) fun o σ'=>kv true (.ref o 0 0 0) σ'):=bE zk
theorem ac3:fJ Tryz.prog 36 u v σ ks=bN v fun c=>aI c 3 (ir u σ c ks):=bc zk
theorem adp {ps:List (Nat×V)}:dA Tryz.prog 36 ps F=aB ([.int .i64 0,.int .i64 0,.bool false]:List Value) (av (aF Tryz.prog 36) ps (([.int .i64 0,.int .i64 0,.bool false]:List Value).map V.lit) fun l=>F true (.agg l)):=bA zk zk zk
theorem Us {r:List (Nat×V)} {G:List V→Prop}:av (aF Tryz.prog 36) ((0,u)::r) us G=bN u fun c=>aI c 1 (da us 0 c fun l'=>av (aF Tryz.prog 36) r l' G):=au zk
theorem T6 {r:List (Nat×V)} {G:List V→Prop}:av (aF Tryz.prog 36) ((1,u)::r) us G=bN u fun c=>aI c 1 (da us 1 c fun l'=>av (aF Tryz.prog 36) r l' G):=au zk
theorem Um {r:List (Nat×V)} {G:List V→Prop}:av (aF Tryz.prog 36) ((2,u)::r) us G=bN u fun c=>aI c 1 (da us 2 c fun l'=>av (aF Tryz.prog 36) r l' G):=au zk
theorem ady {ps:List (Nat×V)}:dA Tryz.prog 34 ps F=aB ([.int .i64 0,.int .i64 0,.int .i64 0]:List Value) (av (aF Tryz.prog 34) ps (([.int .i64 0,.int .i64 0,.int .i64 0]:List Value).map V.lit) fun l=>F true (.agg l)):=bA zk zk zk
theorem VY {r:List (Nat×V)} {G:List V→Prop}:av (aF Tryz.prog 34) ((0,u)::r) us G=bN u fun c=>aI c 1 (da us 0 c fun l'=>av (aF Tryz.prog 34) r l' G):=au zk
theorem VH {r:List (Nat×V)} {G:List V→Prop}:av (aF Tryz.prog 34) ((1,u)::r) us G=bN u fun c=>aI c 1 (da us 1 c fun l'=>av (aF Tryz.prog 34) r l' G):=au zk
theorem VR {r:List (Nat×V)} {G:List V→Prop}:av (aF Tryz.prog 34) ((2,u)::r) us G=bN u fun c=>aI c 1 (da us 2 c fun l'=>av (aF Tryz.prog 34) r l' G):=au zk
theorem acO:fJ Tryz.prog 34 u v σ ks=bN v fun c=>aI c 3 (ir u σ c ks):=bc zk
theorem ab1:dx Tryz.prog 34 σ kv=aB ([.int .i64 0,.int .i64 0,.int .i64 0]:List Value) (bw σ (.cells (([.int .i64 0,.int .i64 0,.int .i64 0]:List Value).map V.lit)) fun o σ'=>kv true (.ref o 0 0 0) σ'):=bE zk
theorem R3 (h:0≤a∧a≤18446744073709551615):fN Tryz.prog 5 67 (.lit (.int i a)) σ F=F true (.lit (.int .u64 a)):=(eS zk).trans (jR zk zk h)
theorem Vi:mN Tryz.prog 5 67 u σ kv=fN Tryz.prog 5 67 u σ fun τ u=>kv τ u σ:=fF zk
theorem Qr:aJ Tryz.prog 201 (.ref o z i' off) 1 F=F true (.ref o z i' (off+1)):=an (x:=1) (ag:=false) (m:=1) zk
theorem Qa:aJ Tryz.prog 201 (.rref z l i' off) 1 F=F true (.rref z l i' (off+1)):=bm (x:=1) (ag:=false) (m:=1) zk
theorem QI:aJ Tryz.prog 201 (.ref o z i' off) 0 F=F true (.ref o z i' off):=an (x:=0) (ag:=false) (m:=1) zk
theorem OE:aJ Tryz.prog 201 (.rref z l i' off) 0 F=F true (.rref z l i' off):=bm (x:=0) (ag:=false) (m:=1) zk
theorem abY:eW Tryz.prog 47 u σ F=fP u σ (none) F:=aQ zk
theorem Uk {P:Program} {t:TypeId}:aL P .and t (.lit (.int .u8 a)) (.lit (.int .u8 1)) F=F true (.lit (.int .u8 (a%2))):=cP 1 zd zd zd
theorem Sw {ps:List (Nat×V)}:fW Tryz.prog 47 0 ps σ kv=eQ 1 0 ps fun l=>aI l 0 (bw σ (.row 1 l) fun o σ'=>kv true (.sl o 1 0 0) σ'):=cO (et:=5) zk ⟨by kernel_rfl,by decide,by decide⟩
theorem QJ:lG Tryz.prog e 47 47 u v σ kv=gM v σ 1 fun m=>mZ e 1 1 u m σ kv:=fU (et:=5) (ex:=5) (C:=[.int .u8 0]) zk zk zk zk zd rfl
theorem Zw:aL Tryz.prog .eql 47 (.row 1 l) (.lit (.slice none 0 0)) F=m9 .eql l.isEmpty F:=iP ⟨by kernel_rfl,by decide⟩
theorem Hd {P:Program} {t:TypeId}:aL P .shr t (.lit (.int .u64 a)) (.lit (.int .u64 7)) F=F true (.lit (.int .u64 (a/128))):=by rw[eT zd];rfl
theorem Ue:aJ Tryz.prog 34 (.ref o z i' off) 2 F=F true (.ref o z i' (off+2)):=an (x:=2) (ag:=false) (m:=1) zk
theorem Va:aJ Tryz.prog 34 (.ref o z i' off) 1 F=F true (.ref o z i' (off+1)):=an (x:=1) (ag:=false) (m:=1) zk
theorem OO (h:0≤a∧a≤255):fN Tryz.prog 67 5 (.lit (.int i a)) σ F=F true (.lit (.int .u8 a)):=(eS zk).trans (Ip zk zk h)
theorem T8:mN Tryz.prog 67 5 u σ kv=fN Tryz.prog 67 5 u σ fun τ u=>kv τ u σ:=fF zk
theorem G7 {P:Program} {t:TypeId}:aL P .shr t (.lit (.int .u64 a)) (.lit (.int .u64 8)) F=F true (.lit (.int .u64 (a/256))):=by rw[eT zd];rfl
theorem DP {P:Program} {t:TypeId}:aL P .shr t (.lit (.int .u64 a)) (.lit (.int .u64 16)) F=F true (.lit (.int .u64 (a/65536))):=by rw[eT zd];rfl
theorem Q2:aJ Tryz.prog 173 (.rref z l i' off) 0 F=F true (.rref z l i' off):=bm (x:=0) (ag:=true) (m:=3) zk
theorem abB:fJ Tryz.prog 93 u v σ ks=bN v fun c=>aI c 3 (ir u σ c ks):=bc zk
theorem adm:dx Tryz.prog 93 σ kv=aB ([.int .i64 0,.int .i64 0,.int .i64 0]:List Value) (bw σ (.cells (([.int .i64 0,.int .i64 0,.int .i64 0]:List Value).map V.lit)) fun o σ'=>kv true (.ref o 0 0 0) σ'):=bE zk
theorem aaR:fJ Tryz.prog 88 u v σ ks=bN v fun c=>aI c 5 (ir u σ c ks):=bc zk
theorem abe:dx Tryz.prog 88 σ kv=aB ([.int .i64 0,.int .i64 0,.int .i64 0,.int .i64 0,.int .i64 0]:List Value) (bw σ (.cells (([.int .i64 0,.int .i64 0,.int .i64 0,.int .i64 0,.int .i64 0]:List Value).map V.lit)) fun o σ'=>kv true (.ref o 0 0 0) σ'):=bE zk
theorem abX:fJ Tryz.prog 81 u v σ ks=bN v fun c=>aI c 3 (ir u σ c ks):=bc zk
theorem aaN:dx Tryz.prog 81 σ kv=aB ([.int .i64 0,.int .i64 0,.int .i64 0]:List Value) (bw σ (.cells (([.int .i64 0,.int .i64 0,.int .i64 0]:List Value).map V.lit)) fun o σ'=>kv true (.ref o 0 0 0) σ'):=bE zk
theorem Vu:aJ Tryz.prog 58 (.ref o z i' off) 1 F=F true (.ref o z i' (off+1)):=an (x:=1) (ag:=true) (m:=3) zk
theorem S8:aJ Tryz.prog 58 (.rref z l i' off) 1 F=F true (.rref z l i' (off+1)):=bm (x:=1) (ag:=true) (m:=3) zk
theorem Pg {ps:List (Nat×V)}:fW Tryz.prog 100 3 ps σ kv=eQ 1 0 ps fun l=>aI l 3 (bw σ (.row 1 l) fun o σ'=>kv true (.sl o 1 0 3) σ'):=cO (et:=3) zk ⟨by kernel_rfl,by decide,by decide⟩
theorem T7:aJ Tryz.prog 98 (.ref o z i' off) 1 F=F true (.ref o z i' (off+1)):=an (x:=1) (ag:=false) (m:=1) zk
theorem So:aJ Tryz.prog 98 (.ref o z i' off) 0 F=F true (.ref o z i' off):=an (x:=0) (ag:=false) (m:=1) zk
theorem Wt:aJ Tryz.prog 98 (.rref z l i' off) 0 F=F true (.rref z l i' off):=bm (x:=0) (ag:=false) (m:=1) zk
theorem ae0:fJ Tryz.prog 5 u v σ ks=bN v fun c=>aI c 1 (ir u σ c ks):=bc zk
theorem UA {ps:List (Nat×V)}:fW Tryz.prog 47 1 ps σ kv=eQ 1 0 ps fun l=>aI l 1 (bw σ (.row 1 l) fun o σ'=>kv true (.sl o 1 0 1) σ'):=cO (et:=5) zk ⟨by kernel_rfl,by decide,by decide⟩
theorem ac2:fJ Tryz.prog 47 u v σ ks=bN v fun c=>aI c 1 (ir u σ c ks):=bc zk
theorem Vt:aJ Tryz.prog 36 (.ref o z i' off) 1 F=F true (.ref o z i' (off+1)):=an (x:=1) (ag:=false) (m:=1) zk
theorem VQ:aJ Tryz.prog 36 (.ref o z i' off) 0 F=F true (.ref o z i' off):=an (x:=0) (ag:=false) (m:=1) zk
theorem UZ:aJ Tryz.prog 36 (.ref o z i' off) 2 F=F true (.ref o z i' (off+2)):=an (x:=2) (ag:=false) (m:=1) zk
theorem Wn:aJ Tryz.prog 93 (.ref o z i' off) 2 F=F true (.ref o z i' (off+2)):=an (x:=2) (ag:=false) (m:=1) zk
theorem VO:aJ Tryz.prog 93 (.ref o z i' off) 0 F=F true (.ref o z i' off):=an (x:=0) (ag:=false) (m:=1) zk
theorem WT:aJ Tryz.prog 93 (.ref o z i' off) 1 F=F true (.ref o z i' (off+1)):=an (x:=1) (ag:=false) (m:=1) zk
theorem TA:aJ Tryz.prog 29 (.ref o z i' off) 3 F=F true (.ref o z i' (off+5)):=an (x:=5) (ag:=false) (m:=1) zk
theorem abI {ps:List (Nat×V)}:dA Tryz.prog 58 ps F=aB ([.pointer none,.int .i64 0,.int .i64 0,.int .i64 0]:List Value) (av (aF Tryz.prog 58) ps (([.pointer none,.int .i64 0,.int .i64 0,.int .i64 0]:List Value).map V.lit) fun l=>F true (.agg l)):=bA zk zk zk
theorem Tb {r:List (Nat×V)} {G:List V→Prop}:av (aF Tryz.prog 58) ((0,u)::r) us G=bN u fun c=>aI c 1 (da us 0 c fun l'=>av (aF Tryz.prog 58) r l' G):=au zk
theorem UX {r:List (Nat×V)} {G:List V→Prop}:av (aF Tryz.prog 58) ((1,u)::r) us G=bN u fun c=>aI c 3 (da us 1 c fun l'=>av (aF Tryz.prog 58) r l' G):=au zk
theorem adg:eW Tryz.prog 71 u σ F=fP u σ (some 3) F:=aQ zk
theorem abS:fJ Tryz.prog 71 u v σ ks=bN v fun c=>aI c 3 (ir u σ c ks):=bc zk
theorem Wr:aJ Tryz.prog 71 (.ref o z i' off) 2 F=F true (.ref o z i' (off+2)):=an (x:=2) (ag:=false) (m:=1) zk
theorem VB:aJ Tryz.prog 71 (.ref o z i' off) 0 F=F true (.ref o z i' off):=an (x:=0) (ag:=false) (m:=1) zk
theorem Nt {P:Program} {t:TypeId}:aL P .and t (.lit (.int .i64 a)) (.lit (.int .i64 15)) F=F true (.lit (.int .i64 (a%16))):=cP 4 zd zd zd
theorem Tg:aJ Tryz.prog 71 (.ref o z i' off) 1 F=F true (.ref o z i' (off+1)):=an (x:=1) (ag:=false) (m:=1) zk
theorem T3:aJ Tryz.prog 23 (.ref o z i' off) 2 F=F true (.ref o z i' (off+2)):=an (x:=2) (ag:=false) (m:=1) zk
theorem Pr {P:Program} {t:TypeId}:aL P .and t (.lit (.int .i64 a)) (.lit (.int .i64 7)) F=F true (.lit (.int .i64 (a%8))):=cP 3 zd zd zd
theorem VL:aJ Tryz.prog 23 (.ref o z i' off) 1 F=F true (.ref o z i' (off+1)):=an (x:=1) (ag:=false) (m:=1) zk
theorem RX {P:Program} {t:TypeId}:aL P .and t (.lit (.int .i64 a)) (.lit (.int .i64 3)) F=F true (.lit (.int .i64 (a%4))):=cP 2 zd zd zd
theorem U9:aJ Tryz.prog 23 (.ref o z i' off) 0 F=F true (.ref o z i' off):=an (x:=0) (ag:=false) (m:=1) zk
theorem abQ:dx Tryz.prog 71 σ kv=aB ([.int .i64 0,.int .i64 0,.bool false]:List Value) (bw σ (.cells (([.int .i64 0,.int .i64 0,.bool false]:List Value).map V.lit)) fun o σ'=>kv true (.ref o 0 0 0) σ'):=bE zk
theorem F5 {P:Program} {t:TypeId}:aL P .shl t (.lit (.int .u64 a)) (.lit (.int .u64 1)) F=F true (.lit (.int .u64 (IntKind.wrap .u64 (a*2)))):=by rw[mL zd];rfl
theorem Vs:aJ Tryz.prog 58 (.ref o z i' off) 0 F=F true (.ref o z i' off):=an (x:=0) (ag:=false) (m:=1) zk
theorem Tj:aJ Tryz.prog 58 (.rref z l i' off) 0 F=F true (.rref z l i' off):=bm (x:=0) (ag:=false) (m:=1) zk
theorem abz:eW Tryz.prog 56 u σ F=fP u σ (none) F:=aQ zk
theorem abE:dx Tryz.prog 98 σ kv=aB ([.slice none 0 0,.int .i64 0]:List Value) (bw σ (.cells (([.slice none 0 0,.int .i64 0]:List Value).map V.lit)) fun o σ'=>kv true (.ref o 0 0 0) σ'):=bE zk
theorem aal {ps:List (Nat×V)}:dA Tryz.prog 140 ps F=aB ([.int .i64 0,.bool false]:List Value) (av (aF Tryz.prog 140) ps (([.int .i64 0,.bool false]:List Value).map V.lit) fun l=>F true (.agg l)):=bA zk zk zk
theorem Pf {r:List (Nat×V)} {G:List V→Prop}:av (aF Tryz.prog 140) ((0,u)::r) us G=bN u fun c=>aI c 1 (da us 0 c fun l'=>av (aF Tryz.prog 140) r l' G):=au zk
theorem OH {r:List (Nat×V)} {G:List V→Prop}:av (aF Tryz.prog 140) ((1,u)::r) us G=bN u fun c=>aI c 1 (da us 1 c fun l'=>av (aF Tryz.prog 140) r l' G):=au zk
theorem YE:dx Tryz.prog 222 σ kv=aB ([.nilIface]:List Value) (bw σ (.cells (([.nilIface]:List Value).map V.lit)) fun o σ'=>kv true (.ref o 0 0 0) σ'):=bE zk
theorem Xh:fJ Tryz.prog 222 u v σ ks=bN v fun c=>aI c 1 (ir u σ c ks):=bc zk
theorem W7 {ps:List (Nat×V)}:dA Tryz.prog 143 ps F=aB ([.int .i64 0,.int .i64 0,.int .i64 0]:List Value) (av (aF Tryz.prog 143) ps (([.int .i64 0,.int .i64 0,.int .i64 0]:List Value).map V.lit) fun l=>F true (.agg l)):=bA zk zk zk
theorem Qh {r:List (Nat×V)} {G:List V→Prop}:av (aF Tryz.prog 143) ((0,u)::r) us G=bN u fun c=>aI c 1 (da us 0 c fun l'=>av (aF Tryz.prog 143) r l' G):=au zk
theorem Rx {r:List (Nat×V)} {G:List V→Prop}:av (aF Tryz.prog 143) ((1,u)::r) us G=bN u fun c=>aI c 1 (da us 1 c fun l'=>av (aF Tryz.prog 143) r l' G):=au zk
theorem QH {r:List (Nat×V)} {G:List V→Prop}:av (aF Tryz.prog 143) ((2,u)::r) us G=bN u fun c=>aI c 1 (da us 2 c fun l'=>av (aF Tryz.prog 143) r l' G):=au zk
theorem Xp:fJ Tryz.prog 143 u v σ ks=bN v fun c=>aI c 3 (ir u σ c ks):=bc zk
theorem Yz:dx Tryz.prog 143 σ kv=aB ([.int .i64 0,.int .i64 0,.int .i64 0]:List Value) (bw σ (.cells (([.int .i64 0,.int .i64 0,.int .i64 0]:List Value).map V.lit)) fun o σ'=>kv true (.ref o 0 0 0) σ'):=bE zk
theorem YJ {ps:List (Nat×V)}:dA Tryz.prog 131 ps F=aB ([.int .i64 0,.int .i64 0,.bool false]:List Value) (av (aF Tryz.prog 131) ps (([.int .i64 0,.int .i64 0,.bool false]:List Value).map V.lit) fun l=>F true (.agg l)):=bA zk zk zk
theorem RF {r:List (Nat×V)} {G:List V→Prop}:av (aF Tryz.prog 131) ((0,u)::r) us G=bN u fun c=>aI c 1 (da us 0 c fun l'=>av (aF Tryz.prog 131) r l' G):=au zk
theorem Q6 {r:List (Nat×V)} {G:List V→Prop}:av (aF Tryz.prog 131) ((1,u)::r) us G=bN u fun c=>aI c 1 (da us 1 c fun l'=>av (aF Tryz.prog 131) r l' G):=au zk
theorem Rb {r:List (Nat×V)} {G:List V→Prop}:av (aF Tryz.prog 131) ((2,u)::r) us G=bN u fun c=>aI c 1 (da us 2 c fun l'=>av (aF Tryz.prog 131) r l' G):=au zk
theorem Qv {ps:List (Nat×V)}:fW Tryz.prog 256 1 ps σ kv=eQ 3 0 ps fun l=>aI l 1 (bw σ (.row 3 l) fun o σ'=>kv true (.sl o 3 0 1) σ'):=cO (et:=131) zk ⟨by kernel_rfl,by decide,by decide⟩
theorem ZO {ps:List (Nat×V)}:dA Tryz.prog 134 ps F=aB ([.int .i64 0,.int .i64 0]:List Value) (av (aF Tryz.prog 134) ps (([.int .i64 0,.int .i64 0]:List Value).map V.lit) fun l=>F true (.agg l)):=bA zk zk zk
theorem OS {r:List (Nat×V)} {G:List V→Prop}:av (aF Tryz.prog 134) ((0,u)::r) us G=bN u fun c=>aI c 1 (da us 0 c fun l'=>av (aF Tryz.prog 134) r l' G):=au zk
theorem P7 {r:List (Nat×V)} {G:List V→Prop}:av (aF Tryz.prog 134) ((1,u)::r) us G=bN u fun c=>aI c 1 (da us 1 c fun l'=>av (aF Tryz.prog 134) r l' G):=au zk
theorem Zs:fJ Tryz.prog 134 u v σ ks=bN v fun c=>aI c 2 (ir u σ c ks):=bc zk
theorem aak:dx Tryz.prog 134 σ kv=aB ([.int .i64 0,.int .i64 0]:List Value) (bw σ (.cells (([.int .i64 0,.int .i64 0]:List Value).map V.lit)) fun o σ'=>kv true (.ref o 0 0 0) σ'):=bE zk
theorem UC (h:m<l.length):cE Tryz.prog 76 (.row 3 l) (.lit (.int i (m:Int))) F=F true (.rref 3 l m 0):=dk (et:=36) zk zd h
theorem abj:ec Tryz.prog e .len [76] [.row m l] σ kv=eY (.row m l) fun τ v=>kv τ v σ:=dD zk
theorem Z3:ec Tryz.prog e .len [76] [.sl o m off len] σ kv=eY (.sl o m off len) fun τ v=>kv τ v σ:=km zk
theorem Vh {ps:List (Nat×V)}:fW Tryz.prog 30 0 ps σ kv=eQ 1 0 ps fun l=>aI l 0 (bw σ (.row 1 l) fun o σ'=>kv true (.sl o 1 0 0) σ'):=cO (et:=4) zk ⟨by kernel_rfl,by decide,by decide⟩
theorem OY:lG Tryz.prog e 30 30 u v σ kv=gM v σ 1 fun m=>mZ e 1 1 u m σ kv:=fU (et:=4) (ex:=4) (C:=[.bool false]) zk zk zk zk zd rfl
theorem Zl:aL Tryz.prog .eql 30 (.row 1 l) (.lit (.slice none 0 0)) F=m9 .eql l.isEmpty F:=iP ⟨by kernel_rfl,by decide⟩
theorem Z0 {vs:List V}:aL Tryz.prog .eql 93 (.agg us) (.agg vs) F=jE [true,true,true] us vs fun r=>dp (w9 .eql r) F:=fD zk
theorem OJ:aJ Tryz.prog 165 (.ref o z i' off) 2 F=F true (.ref o z i' (off+6)):=an (x:=6) (ag:=false) (m:=1) zk
theorem Ro:aJ Tryz.prog 165 (.rref z l i' off) 2 F=F true (.rref z l i' (off+6)):=bm (x:=6) (ag:=false) (m:=1) zk
theorem XM {vs:List V}:aL Tryz.prog .eql 81 (.agg us) (.agg vs) F=jE [true,true,true] us vs fun r=>dp (w9 .eql r) F:=fD zk
theorem ZE {vs:List V}:aL Tryz.prog .eql 34 (.agg us) (.agg vs) F=jE [true,true,true] us vs fun r=>dp (w9 .eql r) F:=fD zk
theorem Zx {ps:List (Nat×V)}:dA Tryz.prog 173 ps F=aB ([.int .i64 0,.int .i64 0,.int .i64 0,.slice none 0 0,.int .i64 0]:List Value) (av (aF Tryz.prog 173) ps (([.int .i64 0,.int .i64 0,.int .i64 0,.slice none 0 0,.int .i64 0]:List Value).map V.lit) fun l=>F true (.agg l)):=bA zk zk zk
theorem Pt {r:List (Nat×V)} {G:List V→Prop}:av (aF Tryz.prog 173) ((0,u)::r) us G=bN u fun c=>aI c 3 (da us 0 c fun l'=>av (aF Tryz.prog 173) r l' G):=au zk
theorem RG {r:List (Nat×V)} {G:List V→Prop}:av (aF Tryz.prog 173) ((1,u)::r) us G=bN u fun c=>aI c 1 (da us 3 c fun l'=>av (aF Tryz.prog 173) r l' G):=au zk
theorem PT {r:List (Nat×V)} {G:List V→Prop}:av (aF Tryz.prog 173) ((2,u)::r) us G=bN u fun c=>aI c 1 (da us 4 c fun l'=>av (aF Tryz.prog 173) r l' G):=au zk
theorem aa4:fJ Tryz.prog 37 u v σ ks=bN v fun c=>aI c 1 (ir u σ c ks):=bc zk
theorem ZL:eW Tryz.prog 165 u σ F=fP u σ (some 7) F:=aQ zk
theorem Zf:dx Tryz.prog 165 σ kv=aB ([.int .i64 0,.int .i64 0,.int .i64 0,.int .i64 0,.int .i64 0,.slice none 0 0,.int .i64 0]:List Value) (bw σ (.cells (([.int .i64 0,.int .i64 0,.int .i64 0,.int .i64 0,.int .i64 0,.slice none 0 0,.int .i64 0]:List Value).map V.lit)) fun o σ'=>kv true (.ref o 0 0 0) σ'):=bE zk
theorem XK:fJ Tryz.prog 165 u v σ ks=bN v fun c=>aI c 7 (ir u σ c ks):=bc zk
theorem Xa:fJ Tryz.prog 159 u v σ ks=bN v fun c=>aI c 1 (ir u σ c ks):=bc zk
theorem ZG:eW Tryz.prog 161 u σ F=fP u σ (some 6) F:=aQ zk
theorem ZN:dx Tryz.prog 161 σ kv=aB ([.int .i64 0,.int .i64 0,.int .i64 0,.slice none 0 0,.int .i64 0,.bool false]:List Value) (bw σ (.cells (([.int .i64 0,.int .i64 0,.int .i64 0,.slice none 0 0,.int .i64 0,.bool false]:List Value).map V.lit)) fun o σ'=>kv true (.ref o 0 0 0) σ'):=bE zk
theorem YI:fJ Tryz.prog 161 u v σ ks=bN v fun c=>aI c 6 (ir u σ c ks):=bc zk
theorem abr:eW Tryz.prog 42 u σ F=fP u σ (some 11) F:=aQ zk
theorem acy:fJ Tryz.prog 42 u v σ ks=bN v fun c=>aI c 11 (ir u σ c ks):=bc zk
theorem abU {ps:List (Nat×V)}:dA Tryz.prog 93 ps F=aB ([.int .i64 0,.int .i64 0,.int .i64 0]:List Value) (av (aF Tryz.prog 93) ps (([.int .i64 0,.int .i64 0,.int .i64 0]:List Value).map V.lit) fun l=>F true (.agg l)):=bA zk zk zk
theorem SC {r:List (Nat×V)} {G:List V→Prop}:av (aF Tryz.prog 93) ((0,u)::r) us G=bN u fun c=>aI c 1 (da us 0 c fun l'=>av (aF Tryz.prog 93) r l' G):=au zk
theorem UG {r:List (Nat×V)} {G:List V→Prop}:av (aF Tryz.prog 93) ((1,u)::r) us G=bN u fun c=>aI c 1 (da us 1 c fun l'=>av (aF Tryz.prog 93) r l' G):=au zk
theorem VJ {r:List (Nat×V)} {G:List V→Prop}:av (aF Tryz.prog 93) ((2,u)::r) us G=bN u fun c=>aI c 1 (da us 2 c fun l'=>av (aF Tryz.prog 93) r l' G):=au zk
theorem Tp:aJ Tryz.prog 42 (.ref o z i' off) 6 F=F true (.ref o z i' (off+10)):=an (x:=10) (ag:=false) (m:=1) zk
theorem acT:fJ Tryz.prog 40 u v σ ks=bN v fun c=>aI c 1 (ir u σ c ks):=bc zk
theorem abk {ps:List (Nat×V)}:dA Tryz.prog 88 ps F=aB ([.int .i64 0,.int .i64 0,.int .i64 0,.int .i64 0,.int .i64 0]:List Value) (av (aF Tryz.prog 88) ps (([.int .i64 0,.int .i64 0,.int .i64 0,.int .i64 0,.int .i64 0]:List Value).map V.lit) fun l=>F true (.agg l)):=bA zk zk zk
theorem SG {r:List (Nat×V)} {G:List V→Prop}:av (aF Tryz.prog 88) ((0,u)::r) us G=bN u fun c=>aI c 1 (da us 0 c fun l'=>av (aF Tryz.prog 88) r l' G):=au zk
theorem T9 {r:List (Nat×V)} {G:List V→Prop}:av (aF Tryz.prog 88) ((1,u)::r) us G=bN u fun c=>aI c 1 (da us 1 c fun l'=>av (aF Tryz.prog 88) r l' G):=au zk
theorem UM {r:List (Nat×V)} {G:List V→Prop}:av (aF Tryz.prog 88) ((2,u)::r) us G=bN u fun c=>aI c 3 (da us 2 c fun l'=>av (aF Tryz.prog 88) r l' G):=au zk
theorem Vw:aJ Tryz.prog 42 (.ref o z i' off) 5 F=F true (.ref o z i' (off+9)):=an (x:=9) (ag:=false) (m:=1) zk
theorem acF:fJ Tryz.prog 39 u v σ ks=bN v fun c=>aI c 1 (ir u σ c ks):=bc zk
theorem abu {ps:List (Nat×V)}:dA Tryz.prog 81 ps F=aB ([.int .i64 0,.int .i64 0,.int .i64 0]:List Value) (av (aF Tryz.prog 81) ps (([.int .i64 0,.int .i64 0,.int .i64 0]:List Value).map V.lit) fun l=>F true (.agg l)):=bA zk zk zk
theorem Ta {r:List (Nat×V)} {G:List V→Prop}:av (aF Tryz.prog 81) ((0,u)::r) us G=bN u fun c=>aI c 1 (da us 0 c fun l'=>av (aF Tryz.prog 81) r l' G):=au zk
theorem Tm {r:List (Nat×V)} {G:List V→Prop}:av (aF Tryz.prog 81) ((1,u)::r) us G=bN u fun c=>aI c 1 (da us 1 c fun l'=>av (aF Tryz.prog 81) r l' G):=au zk
theorem SK {r:List (Nat×V)} {G:List V→Prop}:av (aF Tryz.prog 81) ((2,u)::r) us G=bN u fun c=>aI c 1 (da us 2 c fun l'=>av (aF Tryz.prog 81) r l' G):=au zk
theorem WQ:aJ Tryz.prog 42 (.ref o z i' off) 4 F=F true (.ref o z i' (off+8)):=an (x:=8) (ag:=false) (m:=1) zk
theorem abK:fJ Tryz.prog 38 u v σ ks=bN v fun c=>aI c 1 (ir u σ c ks):=bc zk
theorem SD:aJ Tryz.prog 42 (.ref o z i' off) 1 F=F true (.ref o z i' (off+1)):=an (x:=1) (ag:=true) (m:=3) zk
theorem Sg:aJ Tryz.prog 42 (.ref o z i' off) 3 F=F true (.ref o z i' (off+7)):=an (x:=7) (ag:=false) (m:=1) zk
theorem S5:aJ Tryz.prog 42 (.ref o z i' off) 2 F=F true (.ref o z i' (off+4)):=an (x:=4) (ag:=true) (m:=3) zk
theorem abx {ps:List (Nat×V)}:dA Tryz.prog 42 ps F=aB ([.int .i64 0,.int .i64 0,.int .i64 0,.int .i64 0,.int .i64 0,.int .i64 0,.bool false,.pointer none,.pointer none,.pointer none,.pointer none]:List Value) (av (aF Tryz.prog 42) ps (([.int .i64 0,.int .i64 0,.int .i64 0,.int .i64 0,.int .i64 0,.int .i64 0,.bool false,.pointer none,.pointer none,.pointer none,.pointer none]:List Value).map V.lit) fun l=>F true (.agg l)):=bA zk zk zk
theorem VK {r:List (Nat×V)} {G:List V→Prop}:av (aF Tryz.prog 42) ((0,u)::r) us G=bN u fun c=>aI c 1 (da us 0 c fun l'=>av (aF Tryz.prog 42) r l' G):=au zk
theorem adx:dx Tryz.prog 42 σ kv=aB ([.int .i64 0,.int .i64 0,.int .i64 0,.int .i64 0,.int .i64 0,.int .i64 0,.bool false,.pointer none,.pointer none,.pointer none,.pointer none]:List Value) (bw σ (.cells (([.int .i64 0,.int .i64 0,.int .i64 0,.int .i64 0,.int .i64 0,.int .i64 0,.bool false,.pointer none,.pointer none,.pointer none,.pointer none]:List Value).map V.lit)) fun o σ'=>kv true (.ref o 0 0 0) σ'):=bE zk
theorem ZH {ps:List (Nat×V)}:dA Tryz.prog 201 ps F=aB ([.slice none 0 0,.int .i64 0]:List Value) (av (aF Tryz.prog 201) ps (([.slice none 0 0,.int .i64 0]:List Value).map V.lit) fun l=>F true (.agg l)):=bA zk zk zk
theorem RJ {r:List (Nat×V)} {G:List V→Prop}:av (aF Tryz.prog 201) ((0,u)::r) us G=bN u fun c=>aI c 1 (da us 0 c fun l'=>av (aF Tryz.prog 201) r l' G):=au zk
theorem RR:ya Tryz.prog 47 47 u v σ kv=gM v σ 1 fun m=>Bl 1 u m σ kv:=Jj (et:=5) (ex:=5) zk zk
theorem abG:nO Tryz.prog 47 u v σ kv=jm 1 1 [.int .u8 0] u v σ kv:=mj (et:=5) zk zk zk
theorem N6 (h:0≤a∧a*1≤140737488355328):jm 1 1 [.int .u8 0] (.lit (.int .i64 a)) (.lit (.int .i64 a)) σ kv=bw σ (.row 1 (dy [.int .u8 0] a.toNat)) fun o σ'=>kv true (.sl o 1 0 a.toNat) σ':=by
 rw[oD (C:=[.int .u8 0]) (z:=1) ⟨h.1,rfl,h.2,by omega,by decide⟩ rfl];simp[aB,bj]
theorem YF (h:m*1≤140737488355328):jm 1 1 [.int .u8 0] (.lit (.int .i64 (m:Int))) (.lit (.int .i64 (m:Int))) σ kv=bw σ (.row 1 (dy [.int .u8 0] m)) fun o σ'=>kv true (.sl o 1 0 m) σ':=N6 zo
theorem Ql:aJ Tryz.prog 176 (.ref o z i' off) 1 F=F true (.ref o z i' (off+1)):=an (x:=1) (ag:=false) (m:=1) zk
theorem Ry:aJ Tryz.prog 176 (.ref o z i' off) 0 F=F true (.ref o z i' off):=an (x:=0) (ag:=false) (m:=1) zk
theorem XT:dx Tryz.prog 176 σ kv=aB ([.int .u64 0,.int .i64 0]:List Value) (bw σ (.cells (([.int .u64 0,.int .i64 0]:List Value).map V.lit)) fun o σ'=>kv true (.ref o 0 0 0) σ'):=bE zk
theorem Sd {ps:List (Nat×V)}:fW Tryz.prog 76 1 ps σ kv=eQ 3 0 ps fun l=>aI l 1 (bw σ (.row 3 l) fun o σ'=>kv true (.sl o 3 0 1) σ'):=cO (et:=36) zk ⟨by kernel_rfl,by decide,by decide⟩
theorem acN:eW Tryz.prog 40 u σ F=fP u σ (none) F:=aQ zk
theorem OU {ps:List (Nat×V)}:fW Tryz.prog 100 2 ps σ kv=eQ 1 0 ps fun l=>aI l 2 (bw σ (.row 1 l) fun o σ'=>kv true (.sl o 1 0 2) σ'):=cO (et:=3) zk ⟨by kernel_rfl,by decide,by decide⟩
theorem LA:lG Tryz.prog e 100 100 u v σ kv=gM v σ 1 fun m=>mZ e 1 8 u m σ kv:=fU (et:=3) (ex:=3) (C:=[.int .i64 0]) zk zk zk zk zd rfl
theorem ada:eW Tryz.prog 39 u σ F=fP u σ (none) F:=aQ zk
theorem aa6:eW Tryz.prog 38 u σ F=fP u σ (none) F:=aQ zk
theorem Qk {ps:List (Nat×V)}:fW Tryz.prog 100 4 ps σ kv=eQ 1 0 ps fun l=>aI l 4 (bw σ (.row 1 l) fun o σ'=>kv true (.sl o 1 0 4) σ'):=cO (et:=3) zk ⟨by kernel_rfl,by decide,by decide⟩
theorem UO:aJ Tryz.prog 42 (.ref o z i' off) 0 F=F true (.ref o z i' off):=an (x:=0) (ag:=false) (m:=1) zk
theorem Qy {P:Program} {t:TypeId}:aL P .and t (.lit (.int .u64 a)) (.lit (.int .u64 1)) F=F true (.lit (.int .u64 (a%2))):=cP 1 zd zd zd
theorem aat {o z i off:Nat}:aL Tryz.prog .neq 40 (.ref o z i off) (.lit (.pointer none)) F=F true (.lit (.bool true)):=q9 zk
theorem Ud {z i off:Nat}:aL Tryz.prog .neq 40 (.rref z l i off) (.lit (.pointer none)) F=F true (.lit (.bool true)):=kJ zk
theorem ZK {o z i off:Nat}:aL Tryz.prog .neq 39 (.ref o z i off) (.lit (.pointer none)) F=F true (.lit (.bool true)):=q9 zk
theorem TX {z i off:Nat}:aL Tryz.prog .neq 39 (.rref z l i off) (.lit (.pointer none)) F=F true (.lit (.bool true)):=kJ zk
theorem Xg {o z i off:Nat}:aL Tryz.prog .neq 38 (.ref o z i off) (.lit (.pointer none)) F=F true (.lit (.bool true)):=q9 zk
theorem Sb {z i off:Nat}:aL Tryz.prog .neq 38 (.rref z l i off) (.lit (.pointer none)) F=F true (.lit (.bool true)):=kJ zk
theorem Ws {z i off:Nat}:aL Tryz.prog .neq 37 (.rref z l i off) (.lit (.pointer none)) F=F true (.lit (.bool true)):=kJ zk
theorem Zk:nO Tryz.prog 171 u v σ kv=jm 2 16 [.int .u64 0,.int .i64 0] u v σ kv:=mj (et:=176) zk zk zk
theorem I9 (h:0≤a∧a*16≤140737488355328):jm 2 16 [.int .u64 0,.int .i64 0] (.lit (.int .i64 a)) (.lit (.int .i64 a)) σ kv=bw σ (.row 2 (dy [.int .u64 0,.int .i64 0] a.toNat)) fun o σ'=>kv true (.sl o 2 0 a.toNat) σ':=by
 rw[oD (C:=[.int .u64 0,.int .i64 0]) (z:=2) ⟨h.1,rfl,h.2,by omega,by decide⟩ rfl];simp[aB,bj]
theorem VV (h:m*16≤140737488355328):jm 2 16 [.int .u64 0,.int .i64 0] (.lit (.int .i64 (m:Int))) (.lit (.int .i64 (m:Int))) σ kv=bw σ (.row 2 (dy [.int .u64 0,.int .i64 0] m)) fun o σ'=>kv true (.sl o 2 0 m) σ':=I9 zo
theorem Yx {ps:List (Nat×V)}:dA Tryz.prog 167 ps F=aB ([.int .u64 0,.int .u64 0]:List Value) (av (aF Tryz.prog 167) ps (([.int .u64 0,.int .u64 0]:List Value).map V.lit) fun l=>F true (.agg l)):=bA zk zk zk
theorem QY {r:List (Nat×V)} {G:List V→Prop}:av (aF Tryz.prog 167) ((0,u)::r) us G=bN u fun c=>aI c 1 (da us 0 c fun l'=>av (aF Tryz.prog 167) r l' G):=au zk
theorem Sa {r:List (Nat×V)} {G:List V→Prop}:av (aF Tryz.prog 167) ((1,u)::r) us G=bN u fun c=>aI c 1 (da us 1 c fun l'=>av (aF Tryz.prog 167) r l' G):=au zk
theorem Vp:aJ Tryz.prog 29 (.ref o z i' off) 0 F=F true (.ref o z i' off):=an (x:=0) (ag:=false) (m:=1) zk
theorem Ti:aJ Tryz.prog 29 (.ref o z i' off) 1 F=F true (.ref o z i' (off+1)):=an (x:=1) (ag:=false) (m:=1) zk
theorem Mg {P:Program} {t:TypeId}:aL P .and t (.lit (.int .i64 a)) (.lit (.int .i64 255)) F=F true (.lit (.int .i64 (a%256))):=cP 8 zd zd zd
theorem acf:eW Tryz.prog 23 u σ F=fP u σ (some 3) F:=aQ zk
theorem Ve:aJ Tryz.prog 29 (.ref o z i' off) 2 F=F true (.ref o z i' (off+2)):=an (x:=2) (ag:=true) (m:=3) zk
theorem abi {ps:List (Nat×V)}:dA Tryz.prog 71 ps F=aB ([.int .i64 0,.int .i64 0,.bool false]:List Value) (av (aF Tryz.prog 71) ps (([.int .i64 0,.int .i64 0,.bool false]:List Value).map V.lit) fun l=>F true (.agg l)):=bA zk zk zk
theorem abD:dx Tryz.prog 23 σ kv=aB ([.int .i64 0,.int .i64 0,.int .i64 0]:List Value) (bw σ (.cells (([.int .i64 0,.int .i64 0,.int .i64 0]:List Value).map V.lit)) fun o σ'=>kv true (.ref o 0 0 0) σ'):=bE zk
theorem ac9:fJ Tryz.prog 23 u v σ ks=bN v fun c=>aI c 3 (ir u σ c ks):=bc zk
theorem ZJ:fJ Tryz.prog 167 u v σ ks=bN v fun c=>aI c 2 (ir u σ c ks):=bc zk
theorem U6:aJ Tryz.prog 26 (.ref o z i' off) 0 F=F true (.ref o z i' off):=an (x:=0) (ag:=false) (m:=1) zk
theorem V5:aJ Tryz.prog 26 (.ref o z i' off) 1 F=F true (.ref o z i' (off+1)):=an (x:=1) (ag:=false) (m:=1) zk
theorem P0 {P:Program} {t:TypeId}:aL P .and t (.lit (.int .i64 a)) (.lit (.int .i64 1)) F=F true (.lit (.int .i64 (a%2))):=cP 1 zd zd zd
theorem Tu:aJ Tryz.prog 26 (.ref o z i' off) 2 F=F true (.ref o z i' (off+2)):=an (x:=2) (ag:=false) (m:=1) zk
theorem acz {ps:List (Nat×V)}:dA Tryz.prog 26 ps F=aB ([.int .i64 0,.int .i64 0,.int .i64 0]:List Value) (av (aF Tryz.prog 26) ps (([.int .i64 0,.int .i64 0,.int .i64 0]:List Value).map V.lit) fun l=>F true (.agg l)):=bA zk zk zk
theorem SW {r:List (Nat×V)} {G:List V→Prop}:av (aF Tryz.prog 26) ((0,u)::r) us G=bN u fun c=>aI c 1 (da us 0 c fun l'=>av (aF Tryz.prog 26) r l' G):=au zk
theorem WN {r:List (Nat×V)} {G:List V→Prop}:av (aF Tryz.prog 26) ((1,u)::r) us G=bN u fun c=>aI c 1 (da us 1 c fun l'=>av (aF Tryz.prog 26) r l' G):=au zk
theorem Un {r:List (Nat×V)} {G:List V→Prop}:av (aF Tryz.prog 26) ((2,u)::r) us G=bN u fun c=>aI c 1 (da us 2 c fun l'=>av (aF Tryz.prog 26) r l' G):=au zk
theorem abf:fJ Tryz.prog 26 u v σ ks=bN v fun c=>aI c 3 (ir u σ c ks):=bc zk
theorem aca:dx Tryz.prog 26 σ kv=aB ([.int .i64 0,.int .i64 0,.int .i64 0]:List Value) (bw σ (.cells (([.int .i64 0,.int .i64 0,.int .i64 0]:List Value).map V.lit)) fun o σ'=>kv true (.ref o 0 0 0) σ'):=bE zk
theorem Yk:nO Tryz.prog 159 u v σ kv=jm 2 16 [.int .i64 0,.int .i64 0] u v σ kv:=mj (et:=151) zk zk zk
theorem Jw (h:0≤a∧a*16≤140737488355328):jm 2 16 [.int .i64 0,.int .i64 0] (.lit (.int .i64 a)) (.lit (.int .i64 a)) σ kv=bw σ (.row 2 (dy [.int .i64 0,.int .i64 0] a.toNat)) fun o σ'=>kv true (.sl o 2 0 a.toNat) σ':=by
 rw[oD (C:=[.int .i64 0,.int .i64 0]) (z:=2) ⟨h.1,rfl,h.2,by omega,by decide⟩ rfl];simp[aB,bj]
theorem UJ (h:m*16≤140737488355328):jm 2 16 [.int .i64 0,.int .i64 0] (.lit (.int .i64 (m:Int))) (.lit (.int .i64 (m:Int))) σ kv=bw σ (.row 2 (dy [.int .i64 0,.int .i64 0] m)) fun o σ'=>kv true (.sl o 2 0 m) σ':=Jw zo
theorem YL {ps:List (Nat×V)}:dA Tryz.prog 161 ps F=aB ([.int .i64 0,.int .i64 0,.int .i64 0,.slice none 0 0,.int .i64 0,.bool false]:List Value) (av (aF Tryz.prog 161) ps (([.int .i64 0,.int .i64 0,.int .i64 0,.slice none 0 0,.int .i64 0,.bool false]:List Value).map V.lit) fun l=>F true (.agg l)):=bA zk zk zk
theorem Pn {r:List (Nat×V)} {G:List V→Prop}:av (aF Tryz.prog 161) ((0,u)::r) us G=bN u fun c=>aI c 3 (da us 0 c fun l'=>av (aF Tryz.prog 161) r l' G):=au zk
theorem PE {r:List (Nat×V)} {G:List V→Prop}:av (aF Tryz.prog 161) ((1,u)::r) us G=bN u fun c=>aI c 1 (da us 3 c fun l'=>av (aF Tryz.prog 161) r l' G):=au zk
theorem OW {r:List (Nat×V)} {G:List V→Prop}:av (aF Tryz.prog 161) ((2,u)::r) us G=bN u fun c=>aI c 1 (da us 4 c fun l'=>av (aF Tryz.prog 161) r l' G):=au zk
theorem Xs {o z i off:Nat}:aL Tryz.prog .eql 37 (.ref o z i off) (.lit (.pointer none)) F=F true (.lit (.bool false)):=GX zk
theorem acr:nO Tryz.prog 76 u v σ kv=jm 3 24 [.int .i64 0,.int .i64 0,.bool false] u v σ kv:=mj (et:=36) zk zk zk
theorem Uf (h:m<l.length):cE Tryz.prog 24 (.row 3 l) (.lit (.int i (m:Int))) F=F true (.rref 3 l m 0):=dk (et:=71) zk zd h
theorem YO (h:0≤a∧a<L.length):cE Tryz.prog 24 (.row 3 (L.map f)) (.lit (.int i a)) F=F true (.rref 3 (L.map f) a.toNat 0):=kz (et:=71) zk zd h
theorem QZ:lG Tryz.prog e 76 76 u v σ kv=gM v σ 3 fun m=>mZ e 3 24 u m σ kv:=fU (et:=36) (ex:=36) (C:=[.int .i64 0,.int .i64 0,.bool false]) zk zk zk zk zd rfl
theorem abA:ec Tryz.prog e .len [24] [.row m l] σ kv=eY (.row m l) fun τ v=>kv τ v σ:=dD zk
theorem ZV:eW Tryz.prog 173 u σ F=fP u σ (some 5) F:=aQ zk
theorem Y5:fJ Tryz.prog 173 u v σ ks=bN v fun c=>aI c 5 (ir u σ c ks):=bc zk
theorem Yh:lX Tryz.prog 30 (.row 1 (L.map f)) lo hi none F=dW hi L.length L.length fun h=>dW lo 0 h fun x=>F true (.row 1 (((L.take h).drop x).map f)):=rZ (et:=4) zk
theorem Xv {ps:List (Nat×V)}:dA Tryz.prog 128 ps F=aB ([.int .i64 0,.bool false,.slice none 0 0]:List Value) (av (aF Tryz.prog 128) ps (([.int .i64 0,.bool false,.slice none 0 0]:List Value).map V.lit) fun l=>F true (.agg l)):=bA zk zk zk
theorem R8 {r:List (Nat×V)} {G:List V→Prop}:av (aF Tryz.prog 128) ((1,u)::r) us G=bN u fun c=>aI c 1 (da us 2 c fun l'=>av (aF Tryz.prog 128) r l' G):=au zk
theorem Yb {vs:List V}:aL Tryz.prog .eql 36 (.agg us) (.agg vs) F=jE [true,true,false] us vs fun r=>dp (w9 .eql r) F:=fD zk
theorem aaW {ps:List (Nat×V)}:dA Tryz.prog 98 ps F=aB ([.slice none 0 0,.int .i64 0]:List Value) (av (aF Tryz.prog 98) ps (([.slice none 0 0,.int .i64 0]:List Value).map V.lit) fun l=>F true (.agg l)):=bA zk zk zk
theorem Wo:aJ Tryz.prog 32 (.ref o z i' off) 5 F=F true (.ref o z i' (off+14)):=an (x:=14) (ag:=false) (m:=1) zk
theorem VE:aJ Tryz.prog 32 (.ref o z i' off) 1 F=F true (.ref o z i' (off+1)):=an (x:=1) (ag:=true) (m:=3) zk
theorem SX:aJ Tryz.prog 32 (.ref o z i' off) 2 F=F true (.ref o z i' (off+4)):=an (x:=4) (ag:=false) (m:=1) zk
theorem ado:eW Tryz.prog 24 u σ F=fP u σ (none) F:=aQ zk
theorem SQ:aJ Tryz.prog 32 (.ref o z i' off) 4 F=F true (.ref o z i' (off+8)):=an (x:=8) (ag:=true) (m:=6) zk
theorem adl:eW Tryz.prog 29 u σ F=fP u σ (some 6) F:=aQ zk
theorem TC:aJ Tryz.prog 32 (.ref o z i' off) 3 F=F true (.ref o z i' (off+5)):=an (x:=5) (ag:=true) (m:=3) zk
theorem acY:eW Tryz.prog 26 u σ F=fP u σ (some 3) F:=aQ zk
theorem U7:aJ Tryz.prog 32 (.ref o z i' off) 0 F=F true (.ref o z i' off):=an (x:=0) (ag:=false) (m:=1) zk
theorem Se:aJ Tryz.prog 32 (.ref o z i' off) 6 F=F true (.ref o z i' (off+15)):=an (x:=15) (ag:=false) (m:=1) zk
theorem UI {r:List (Nat×V)} {G:List V→Prop}:av (aF Tryz.prog 42) ((1,u)::r) us G=bN u fun c=>aI c 3 (da us 1 c fun l'=>av (aF Tryz.prog 42) r l' G):=au zk
theorem Vz {r:List (Nat×V)} {G:List V→Prop}:av (aF Tryz.prog 42) ((2,u)::r) us G=bN u fun c=>aI c 3 (da us 4 c fun l'=>av (aF Tryz.prog 42) r l' G):=au zk
theorem aaP:eW Tryz.prog 32 u σ F=fP u σ (some 16) F:=aQ zk
attribute [go_sem ↓] adV adL ab0 ac8 acw acD acE acn acW ace acs WZ acb abm XD adt acB acA abZ Yw acq acd aa8 abd abv ab5 adb aaV aaT W8 abt adv aa5 abW aaM adw P8 DO DX DF DM DI DK ER acX abh acU Yp Xq Zh XO XY aaC XR XJ aar aaA aah aaB Z5 aau XB Y6 XW Zu Sq aac Zg Zd ZR Zy X7 Xx Ya Xm Yc Zn Z7 aag ZC Ym Xr Yv Y8 Xi aao X9 aaz aad Xo ZY XZ SE Wv Yj Xk Yy YZ YR X4 ZP YS W9 Vk Z2 Zz Zq OK Qz aeQ Qm aeV Qt Yl Yf RE S3 VM QX ade acK Y7 aby acg Zc Ux acR QT Qs aey Yu Px abp ZM abO NS abV XN Ps adk RA YP YC XQ Z1 ZW Zr YQ RQ Qq aab XV ZZ YT XG Pa Xn Ph Rv LR aaf PM RD aaE PC PZ aaa Ri OR aaU Xj XC OB PD PU OF adE PX RB Pk RK Wg YK RN Xt V7 P3 aaw aam YV Q8 R5 YW Yr Wd WU abL aaD acu YG aee acC Yq QB OV ZT ac6 Xe Rr PF Rz O6 abo PH Rw PN aba RZ Q3 Rq QP YA aaH Qj OG YH Tr WD Sl WJ WM Wi Q4 Xf QR O5 ON RH QQ PA Oz XP ads Xu XX QF Q7 Ye XA L9 Ly XF Lo K5 X6 LG Mn Yi Tn Z8 XL SA Za Vb Qi QO abF Zv Pj abN Vc Rh LU SI P4 LQ Uq Pq Mc Ul Qf Qo Xz Yn Pe OP Z9 OM QA ab6 Z6 Qe Qu OI YY Wh TY ZB Wq X5 PK VD R6 Rm aa9 abR ac3 adp Us T6 Um ady VY VH VR acO ab1 Vi Qr Qa QI OE abY Sw QJ Zw Ue Va T8 Q2 abB adm aaR abe abX aaN Vu S8 Pg T7 So Wt ae0 UA ac2 Vt VQ UZ Wn VO WT TA abI Tb UX adg abS Wr VB Tg T3 VL U9 abQ Vs Tj abz abE aal Pf OH YE Xh W7 Qh Rx QH Xp Yz YJ RF Q6 Rb Qv ZO OS P7 Zs aak abj Z3 Vh OY Zl Z0 OJ Ro XM ZE Zx Pt RG PT aa4 ZL Zf XK Xa ZG ZN YI abr acy abU SC UG VJ Tp acT abk SG T9 UM Vw acF abu Ta Tm SK WQ abK SD Sg S5 abx VK adx ZH RJ RR abG N6 Ql Ry XT Sd acN OU LA ada aa6 Qk UO aat Ud ZK TX Xg Sb Ws Zk I9 Yx QY Sa Vp Ti acf Ve abi abD ac9 ZJ U6 V5 Tu acz SW WN Un abf aca Yk Jw YL Pn PE OW Xs acr QZ abA ZV Y5 Xv R8 Yb aaW Wo VE SX ado SQ adl TC acY U7 Se UI Vz aaP
attribute [go_sem ↓ high] Ra Rj Po aaG Uw aas P6 zw DL Mw Oh Yd YD Ty FZ R9 NC WI FE ox D7 DU UY RT Sm LW Vq ZX Xy TO OX Pm Up Qw R3 Uk Hd OO G7 DP Nt Pr RX F5 UC YF Qy VV Mg P0 UJ Uf YO Yh
end
end Go.Proofs.YtcnlmelpnflhnaaGreat
