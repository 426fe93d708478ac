import Derived.Test.YtcnlmelpnflhnaaGreatVl
import Derived.Test.YtcnlmelpnflhnaaGreatProg
import Derived.KernelRfl
namespace Go
theorem zo {p:Prop} (h:p:=by omega):p:=h
theorem zd {p:Prop} (h:p:=by decide):p:=h
theorem zk {p:Prop} (h:p:=by kernel_rfl):p:=h
end Go
namespace Go.Proofs.YtcnlmelpnflhnaaGreat
open Go.Eng Go.Vx
set_option linter.unusedVariables false
set_option linter.unusedSimpArgs false
set_option maxRecDepth 100000
@[go_sem] def u0:List (Nat×Nat×Nat):=[(0,(5,0)),(1,(5,0)),(2,(5,0)),(3,(0,0)),(4,(0,0)),(5,(5,0)),(6,(5,0)),(7,(0,0)),(8,(0,0)),(10,(0,0)),(11,(0,0)),(9,(1,0)),(12,(2,0)),(13,(0,0)),(14,(5,0)),(15,(5,0))]
@[go_sem] def u1:List (Nat×Nat×Nat):=[(0,(5,0)),(2,(5,0)),(1,(0,0)),(3,(0,0)),(4,(5,0)),(5,(0,0)),(6,(2,0)),(7,(5,0)),(8,(5,0)),(9,(5,0)),(10,(2,0))]
@[go_sem] def u2:List (Nat×Nat×Nat):=[(0,(0,0)),(2,(0,0)),(1,(1,0)),(4,(5,0)),(3,(2,0)),(5,(2,0)),(6,(5,0)),(7,(2,0))]
@[go_sem] def u3:List (Nat×Nat×Nat):=[(0,(5,0)),(4,(5,0)),(1,(0,0)),(5,(0,0)),(6,(0,0)),(7,(5,0)),(8,(5,0)),(2,(1,0)),(3,(1,0)),(9,(2,0)),(10,(5,0)),(11,(5,0)),(12,(5,0)),(13,(5,0)),(14,(5,0))]
@[go_sem] def u4:List (Nat×Nat×Nat):=[(0,(5,0)),(3,(5,0)),(1,(0,0)),(4,(0,0)),(2,(1,0)),(5,(2,0)),(6,(2,0)),(7,(5,0)),(8,(5,0)),(9,(5,0)),(10,(5,0)),(11,(5,0))]
@[go_sem] def u5:List (Nat×Nat×Nat):=[(0,(5,0)),(2,(5,0)),(1,(0,0)),(4,(5,0)),(3,(8,5)),(6,(5,0)),(7,(2,0))]
@[go_sem] def u6:List (Nat×Nat×Nat):=[(0,(5,0)),(1,(5,0)),(2,(5,0)),(4,(5,0)),(5,(5,0)),(6,(5,0)),(3,(0,0)),(7,(0,0)),(8,(5,0))]
@[go_sem] def u7:List (Nat×Nat×Nat):=[(2,(5,0)),(5,(5,0)),(0,(0,0)),(3,(0,0)),(10,(4,0)),(1,(1,0)),(4,(2,0)),(6,(2,0)),(7,(5,0)),(8,(5,0)),(9,(5,0)),(10,(3,0)),(11,(2,0)),(12,(5,0))]
@[go_sem] def u8:List (Nat×Nat×Nat):=[(0,(5,0)),(1,(5,0)),(2,(5,0)),(4,(5,0)),(6,(5,0)),(3,(0,0)),(5,(0,0)),(7,(2,0)),(8,(5,0)),(9,(5,0)),(10,(5,0)),(11,(2,0)),(12,(5,0))]
@[go_sem] def u9:List (Nat×Nat×Nat):=[(0,(5,0)),(1,(5,0)),(2,(5,0)),(5,(5,0)),(6,(5,0)),(7,(5,0)),(9,(5,0)),(8,(0,0)),(10,(0,0)),(11,(5,0)),(3,(1,0)),(4,(1,0)),(12,(2,0)),(13,(5,0)),(14,(5,0)),(15,(5,0)),(16,(5,0)),(17,(5,0))]
@[go_sem] def u10:List (Nat×Nat×Nat):=[(0,(5,0)),(2,(5,0)),(3,(5,0)),(4,(5,0)),(5,(5,0)),(6,(5,0)),(1,(0,0)),(7,(0,0)),(8,(2,0)),(9,(5,0)),(10,(5,0)),(11,(5,0)),(12,(5,0)),(13,(5,0))]
@[go_sem] def u11:List (Nat×Nat×Nat):=[(0,(0,0)),(1,(0,0)),(2,(0,0)),(3,(1,0)),(4,(2,0)),(5,(2,0))]
@[go_sem] def u12:List (Nat×Nat×Nat):=[(0,(5,0)),(2,(5,0)),(3,(5,0)),(4,(5,0)),(1,(0,0)),(5,(0,0)),(6,(2,0)),(7,(2,0)),(8,(1,0)),(9,(2,0)),(10,(5,0))]
@[go_sem] def u13:List (Nat×Nat×Nat):=[(1,(5,0)),(0,(0,0)),(2,(1,0)),(3,(5,0)),(4,(1,0)),(5,(5,0)),(6,(5,0))]
@[go_sem] def u14:List (Nat×Nat×Nat):=[(0,(5,0)),(1,(5,0)),(2,(5,0)),(3,(5,0)),(6,(5,0)),(4,(0,0)),(5,(0,0)),(7,(5,0)),(8,(1,0)),(9,(2,0)),(10,(5,0)),(11,(5,0)),(12,(2,0))]
@[go_sem] def u15:List (Nat×Nat×Nat):=[(0,(5,0)),(4,(5,0)),(1,(0,0)),(2,(5,0)),(3,(5,0)),(5,(0,0)),(6,(5,0)),(7,(5,0)),(8,(5,0)),(9,(0,0)),(10,(1,0)),(11,(5,0)),(12,(2,0))]
@[go_sem] def u16:List (Nat×Nat×Nat):=[(1,(5,0)),(0,(0,0)),(2,(0,0)),(3,(1,0)),(4,(5,0)),(5,(1,0)),(6,(5,0)),(7,(5,0))]
@[go_sem] def u17:List (Nat×Nat×Nat):=[(0,(5,0)),(4,(5,0)),(1,(0,0)),(5,(0,0)),(6,(5,0)),(7,(5,0)),(8,(0,0)),(2,(1,0)),(3,(1,0)),(9,(2,0)),(10,(1,0)),(11,(2,0)),(12,(5,0))]
@[go_sem] def u18:List (Nat×Nat×Nat):=[(0,(5,0)),(2,(5,0)),(4,(5,0)),(6,(5,0)),(1,(0,0)),(3,(0,0)),(5,(0,0)),(7,(0,0)),(8,(1,0)),(9,(1,0)),(10,(5,0))]
@[go_sem] def u19:List (Nat×Nat×Nat):=[(0,(5,0)),(2,(5,0)),(5,(5,0)),(1,(0,0)),(3,(0,0)),(6,(0,0)),(4,(4,0)),(7,(1,0)),(4,(3,0)),(8,(2,0)),(9,(5,0))]
@[go_sem] def u20:List (Nat×Nat×Nat):=[(0,(5,0)),(1,(5,0)),(4,(5,0)),(5,(5,0)),(6,(5,0)),(7,(5,0)),(2,(0,0)),(3,(5,0)),(8,(0,0)),(9,(2,0))]
@[go_sem] def u21:List (Nat×Nat×Nat):=[(0,(5,0)),(2,(5,0)),(3,(5,0)),(4,(5,0)),(1,(0,0)),(5,(0,0)),(6,(2,0)),(7,(5,0)),(8,(5,0)),(9,(5,0)),(10,(5,0)),(11,(2,0)),(12,(5,0))]
@[go_sem] def u22:List (Nat×Nat×Nat):=[(0,(5,0)),(1,(5,0)),(2,(5,0)),(4,(5,0)),(6,(5,0)),(3,(10,168)),(3,(11,0)),(5,(11,0)),(7,(12,0)),(8,(2,0)),(9,(5,0)),(10,(5,0)),(11,(5,0)),(12,(5,0)),(13,(2,0)),(14,(5,0))]
@[go_sem] def u23:List (Nat×Nat×Nat):=[(0,(5,0)),(1,(5,0)),(2,(5,0)),(4,(5,0)),(5,(5,0)),(6,(5,0)),(7,(5,0)),(8,(5,0)),(2,(10,520)),(3,(11,0)),(9,(12,0)),(10,(2,0)),(11,(5,0)),(12,(5,0)),(13,(5,0)),(14,(5,0)),(15,(2,0)),(16,(5,0))]
@[go_sem] def u24:List (Nat×Nat×Nat):=[(0,(5,0)),(1,(5,0)),(2,(5,0)),(4,(5,0)),(5,(5,0)),(6,(5,0)),(3,(10,392)),(3,(11,0)),(7,(12,0)),(8,(11,128)),(9,(2,0)),(10,(5,0)),(11,(5,0)),(12,(5,0)),(13,(5,0)),(14,(2,0)),(15,(5,0))]
@[go_sem] def u25:List (Nat×Nat×Nat):=[(0,(5,0)),(1,(5,0)),(2,(5,0)),(5,(5,0)),(6,(5,0)),(7,(5,0)),(3,(0,0)),(8,(0,0)),(4,(1,0)),(9,(5,0)),(10,(1,0)),(11,(5,0))]
@[go_sem] def u26:List (Nat×Nat×Nat):=[(0,(5,0)),(2,(5,0)),(3,(5,0)),(1,(0,0)),(4,(0,0)),(5,(1,0)),(6,(5,0)),(7,(5,0)),(8,(2,0))]
@[go_sem] def u27:List (Nat×Nat×Nat):=[(0,(5,0)),(1,(5,0)),(2,(5,0)),(4,(5,0)),(5,(5,0)),(6,(5,0)),(9,(5,0)),(10,(5,0)),(11,(5,0)),(3,(0,0)),(7,(0,0)),(12,(0,0)),(8,(1,0)),(13,(5,0)),(14,(1,0)),(15,(5,0))]
@[go_sem] def u28:List (Nat×Nat×Nat):=[(0,(5,0)),(1,(5,0)),(2,(5,0)),(4,(5,0)),(5,(5,0)),(6,(5,0)),(3,(0,0)),(7,(0,0)),(8,(5,0)),(9,(5,0)),(10,(0,0)),(11,(0,0)),(12,(0,0)),(13,(0,0)),(14,(0,0)),(15,(0,0)),(16,(0,0)),(17,(0,0)),(18,(2,0)),(19,(5,0)),(20,(5,0))]
@[go_sem] def u29:List (Nat×Nat×Nat):=[(0,(5,0)),(1,(5,0)),(2,(5,0)),(4,(5,0)),(5,(5,0)),(6,(5,0)),(3,(0,0)),(7,(0,0)),(8,(5,0)),(9,(5,0)),(10,(0,0)),(11,(0,0)),(12,(0,0)),(13,(0,0)),(14,(0,0)),(15,(0,0)),(16,(0,0)),(17,(0,0)),(18,(0,0)),(19,(5,0)),(20,(5,0)),(21,(0,0)),(22,(0,0)),(23,(0,0)),(24,(0,0)),(25,(0,0)),(26,(0,0)),(27,(0,0)),(28,(0,0)),(29,(0,0)),(30,(5,0)),(31,(5,0)),(32,(0,0)),(33,(0,0)),(34,(0,0)),(35,(0,0)),(36,(0,0)),(37,(0,0)),(38,(0,0)),(39,(0,0)),(40,(2,0)),(41,(5,0)),(42,(5,0))]
@[go_sem] def u30:List (Nat×Nat×Nat):=[(0,(5,0)),(1,(5,0)),(2,(2,0)),(3,(5,0)),(4,(0,0)),(5,(0,0)),(6,(0,0)),(7,(0,0)),(8,(0,0)),(9,(0,0)),(10,(0,0)),(11,(0,0)),(12,(0,0)),(13,(5,0)),(14,(5,0)),(15,(0,0)),(16,(0,0)),(17,(0,0)),(18,(0,0)),(19,(0,0)),(20,(0,0)),(21,(0,0)),(22,(0,0)),(23,(0,0)),(24,(2,0)),(25,(5,0)),(26,(5,0))]
@[go_sem] def u31:List (Nat×Nat×Nat):=[(0,(5,0)),(1,(5,0)),(2,(5,0)),(4,(5,0)),(5,(5,0)),(6,(5,0)),(3,(0,0)),(7,(0,0)),(8,(5,0)),(9,(5,0)),(10,(0,0)),(11,(0,0)),(12,(0,0)),(13,(0,0)),(14,(0,0)),(15,(0,0)),(16,(0,0)),(17,(0,0)),(18,(0,0)),(19,(5,0)),(20,(5,0)),(21,(0,0)),(22,(0,0)),(23,(0,0)),(24,(0,0)),(25,(0,0)),(26,(0,0)),(27,(0,0)),(28,(0,0)),(29,(2,0)),(30,(5,0)),(31,(5,0))]
@[go_sem] def u32:List (Nat×Nat×Nat):=[(0,(5,0)),(1,(0,0)),(2,(5,0)),(3,(0,0)),(4,(0,0)),(5,(0,0)),(6,(1,0)),(7,(0,0)),(8,(5,0))]
@[go_sem] def u33:List (Nat×Nat×Nat):=[(0,(5,0)),(1,(5,0)),(2,(5,0)),(3,(0,0)),(4,(1,0)),(5,(1,0)),(6,(2,0)),(7,(5,0)),(8,(5,0)),(9,(2,0)),(10,(5,0))]
@[go_sem] def u34:List (Nat×Nat×Nat):=[(0,(5,0)),(1,(5,0)),(2,(5,0)),(3,(0,0)),(4,(0,0)),(5,(2,0)),(6,(5,0))]
@[go_sem] def u35:List (Nat×Nat×Nat):=[(2,(5,0)),(3,(5,0)),(4,(5,0)),(5,(0,0)),(0,(1,0)),(1,(1,0)),(6,(2,0)),(7,(2,0)),(8,(5,0)),(9,(5,0)),(10,(5,0)),(11,(5,0)),(12,(5,0))]
@[go_sem] def u36:List (Nat×Nat×Nat):=[(0,(0,0)),(2,(0,0)),(8,(4,0)),(1,(1,0)),(3,(2,0)),(4,(2,0)),(5,(5,0)),(6,(5,0)),(7,(5,0)),(8,(3,0)),(9,(2,0)),(10,(5,0))]
@[go_sem] def u37:List (Nat×Nat×Nat):=[(0,(5,0)),(1,(5,0)),(2,(5,0)),(4,(5,0)),(5,(5,0)),(6,(5,0)),(7,(5,0)),(3,(0,0)),(8,(0,0)),(9,(5,0)),(10,(5,0))]
@[go_sem] def u38:List (Nat×Nat×Nat):=[(0,(5,0)),(3,(5,0)),(7,(5,0)),(10,(5,0)),(1,(0,0)),(2,(5,0)),(4,(0,0)),(5,(5,0)),(6,(5,0)),(8,(0,0)),(9,(5,0)),(14,(5,0)),(4,(10,47104)),(11,(11,0)),(12,(11,2048)),(13,(11,4096)),(15,(12,0)),(16,(5,0)),(17,(2,0))]
@[go_sem] def u39:List (Nat×Nat×Nat):=[(0,(0,0)),(2,(0,0)),(1,(1,0)),(3,(2,0)),(4,(2,0)),(5,(5,0))]
@[go_sem] def u40:List (Nat×Nat×Nat):=[(0,(5,0)),(1,(5,0)),(2,(5,0)),(4,(5,0)),(5,(5,0)),(6,(5,0)),(11,(5,0)),(12,(5,0)),(13,(5,0)),(3,(0,0)),(7,(0,0)),(8,(5,0)),(9,(5,0)),(10,(0,0)),(14,(0,0)),(15,(5,0)),(16,(5,0)),(17,(5,0)),(18,(5,0)),(19,(5,0)),(20,(2,0))]
@[go_sem] def u41:List (Nat×Nat×Nat):=[(0,(5,0)),(4,(5,0)),(1,(0,0)),(2,(5,0)),(5,(0,0)),(6,(5,0)),(3,(1,0)),(7,(2,0)),(8,(5,0)),(9,(5,0))]
@[go_sem] def u42:List (Nat×Nat×Nat):=[(0,(5,0)),(1,(5,0)),(2,(5,0)),(6,(5,0)),(7,(5,0)),(8,(5,0)),(3,(0,0)),(4,(0,0)),(5,(5,0)),(9,(0,0)),(10,(5,0)),(11,(5,0))]
@[go_sem] def u43:List (Nat×Nat×Nat):=[(0,(5,0)),(1,(5,0)),(2,(5,0)),(4,(5,0)),(5,(5,0)),(6,(5,0)),(11,(5,0)),(12,(5,0)),(13,(5,0)),(3,(0,0)),(7,(0,0)),(8,(5,0)),(9,(5,0)),(10,(0,0)),(14,(0,0)),(15,(5,0)),(16,(5,0)),(17,(5,0)),(18,(5,0)),(19,(5,0))]
@[go_sem] def u44:List (Nat×Nat×Nat):=[(0,(5,0)),(2,(0,0)),(1,(1,0)),(3,(2,0)),(4,(5,0))]
@[go_sem] def u45:List (Nat×Nat×Nat):=[(0,(5,0)),(1,(5,0)),(2,(5,0)),(4,(5,0)),(3,(0,0)),(5,(0,0)),(6,(5,0)),(7,(5,0)),(8,(0,0)),(9,(0,0)),(10,(0,0)),(11,(0,0)),(12,(0,0)),(13,(0,0)),(14,(0,0)),(15,(0,0)),(16,(0,0)),(17,(0,0)),(18,(0,0)),(19,(0,0)),(20,(0,0)),(21,(5,0))]
@[go_sem] def u46:List (Nat×Nat×Nat):=[(0,(5,0)),(2,(5,0)),(4,(5,0)),(3,(0,0)),(5,(0,0)),(6,(5,0)),(1,(1,0)),(7,(5,0))]
@[go_sem] def u47:List (Nat×Nat×Nat):=[(0,(5,0)),(1,(5,0)),(2,(5,0)),(5,(5,0)),(6,(5,0)),(7,(5,0)),(9,(5,0)),(10,(5,0)),(11,(5,0)),(3,(0,0)),(8,(0,0)),(12,(0,0)),(4,(1,0)),(13,(5,0)),(14,(1,0)),(15,(5,0))]
@[go_sem] def u48:List (Nat×Nat×Nat):=[(0,(5,0)),(1,(5,0)),(2,(5,0)),(4,(5,0)),(5,(5,0)),(6,(5,0)),(3,(0,0)),(7,(0,0)),(8,(5,0)),(9,(5,0)),(10,(0,0)),(12,(0,0)),(11,(1,0)),(13,(2,0)),(14,(2,0)),(15,(5,0)),(16,(5,0))]
@[go_sem] def u49:List (Nat×Nat×Nat):=[(0,(5,0)),(1,(0,0)),(2,(0,0)),(3,(1,0)),(4,(5,0))]
@[go_sem] def u50:List (Nat×Nat×Nat):=[(0,(5,0)),(1,(5,0)),(2,(5,0)),(4,(5,0)),(5,(5,0)),(6,(5,0)),(7,(5,0)),(9,(5,0)),(12,(5,0)),(14,(5,0)),(17,(5,0)),(18,(5,0)),(19,(5,0)),(3,(0,0)),(8,(0,0)),(10,(5,0)),(11,(0,0)),(13,(1,0)),(15,(5,0)),(16,(5,0)),(20,(5,0)),(21,(5,0)),(22,(2,0))]
@[go_sem] def u51:List (Nat×Nat×Nat):=[(0,(5,0)),(1,(5,0)),(2,(5,0)),(4,(5,0)),(5,(5,0)),(6,(5,0)),(7,(5,0)),(8,(5,0)),(10,(5,0)),(11,(5,0)),(14,(5,0)),(16,(5,0)),(19,(5,0)),(20,(5,0)),(21,(5,0)),(3,(0,0)),(9,(0,0)),(12,(5,0)),(13,(0,0)),(15,(1,0)),(17,(5,0)),(18,(5,0)),(22,(5,0)),(23,(5,0)),(24,(2,0))]
@[go_sem] def u52:List (Nat×Nat×Nat):=[(0,(5,0)),(1,(5,0)),(3,(5,0)),(5,(5,0)),(6,(5,0)),(4,(0,0)),(2,(4,0)),(7,(2,0)),(2,(3,0)),(8,(2,0)),(9,(2,0)),(10,(2,0)),(11,(5,0))]
@[go_sem] def u53:List (Nat×Nat×Nat):=[(0,(0,0)),(2,(0,0)),(5,(0,0)),(8,(0,0)),(1,(1,0)),(3,(1,0)),(4,(5,0)),(6,(1,0)),(7,(1,0)),(9,(2,0)),(10,(2,0)),(11,(2,0)),(12,(5,0))]
@[go_sem] def u54:List (Nat×Nat×Nat):=[(1,(5,0)),(2,(5,0)),(0,(0,0)),(3,(0,0)),(4,(1,0)),(5,(0,0)),(6,(5,0)),(7,(5,0)),(8,(2,0))]
@[go_sem] def u55:List (Nat×Nat×Nat):=[(0,(0,0)),(1,(1,0)),(2,(2,0)),(3,(5,0)),(4,(5,0)),(5,(0,0)),(6,(1,0)),(7,(2,0)),(8,(0,0)),(9,(5,0))]
@[go_sem] def u56:List (Nat×Nat×Nat):=[(0,(0,0)),(1,(0,0)),(4,(4,0)),(2,(1,0)),(3,(2,0)),(4,(3,0)),(5,(2,0))]
@[go_sem] def u57:List (Nat×Nat×Nat):=[(0,(5,0)),(4,(5,0)),(1,(0,0)),(2,(5,0)),(3,(5,0)),(8,(5,0)),(5,(0,0)),(6,(5,0)),(7,(5,0)),(9,(5,0))]
@[go_sem] def u58:List (Nat×Nat×Nat):=[(0,(5,0)),(1,(5,0)),(6,(5,0)),(7,(5,0)),(8,(5,0)),(2,(0,0)),(3,(5,0)),(9,(0,0)),(4,(1,0)),(5,(1,0)),(10,(2,0)),(11,(5,0)),(12,(5,0)),(13,(5,0)),(14,(5,0)),(15,(5,0))]
@[go_sem] def u59:List (Nat×Nat×Nat):=[(0,(5,0)),(1,(5,0)),(3,(5,0)),(5,(5,0)),(6,(5,0)),(7,(5,0)),(2,(0,0)),(8,(0,0)),(4,(1,0)),(9,(2,0)),(10,(5,0)),(11,(5,0)),(12,(5,0)),(13,(2,0)),(14,(5,0))]
@[go_sem] def u60:List (Nat×Nat×Nat):=[(0,(5,0)),(1,(5,0)),(2,(5,0)),(4,(5,0)),(3,(0,0)),(5,(0,0)),(6,(5,0)),(7,(2,0))]
@[go_sem] def u61:List (Nat×Nat×Nat):=[(0,(5,0)),(2,(5,0)),(4,(5,0)),(1,(0,0)),(5,(0,0)),(3,(1,0)),(6,(5,0)),(7,(5,0)),(8,(5,0))]
@[go_sem] def u62:List (Nat×Nat×Nat):=[(0,(5,0)),(1,(5,0)),(2,(5,0)),(3,(5,0)),(4,(0,0)),(5,(5,0)),(6,(0,0)),(7,(0,0)),(8,(0,0)),(9,(0,0)),(10,(0,0)),(11,(0,0)),(12,(0,0)),(13,(0,0)),(14,(0,0)),(15,(0,0)),(16,(0,0)),(17,(5,0))]
@[go_sem] def u63:List (Nat×Nat×Nat):=[(0,(5,0)),(1,(5,0)),(2,(5,0)),(4,(5,0)),(5,(5,0)),(6,(5,0)),(7,(5,0)),(3,(0,0)),(8,(0,0)),(9,(5,0)),(10,(5,0)),(11,(0,0)),(12,(5,0)),(13,(5,0))]
@[go_sem] def u64:List (Nat×Nat×Nat):=[(0,(5,0)),(1,(5,0)),(2,(5,0)),(3,(5,0)),(7,(5,0)),(8,(5,0)),(9,(5,0)),(10,(5,0)),(4,(0,0)),(5,(5,0)),(6,(5,0)),(14,(5,0)),(11,(0,0)),(12,(5,0)),(13,(5,0)),(15,(5,0))]
@[go_sem] def u65:List (Nat×Nat×Nat):=[(0,(5,0)),(1,(0,0)),(2,(5,0)),(3,(5,0)),(4,(0,0)),(5,(0,0)),(6,(0,0)),(7,(0,0)),(9,(0,0)),(10,(0,0)),(11,(0,0)),(12,(0,0)),(8,(1,0)),(13,(0,0)),(14,(0,0)),(15,(5,0))]
@[go_sem] def u66:List (Nat×Nat×Nat):=[(0,(5,0)),(1,(5,0)),(2,(5,0)),(4,(5,0)),(5,(5,0)),(6,(5,0)),(3,(0,0)),(7,(5,0)),(8,(5,0)),(9,(2,0))]
@[go_sem] def u67:List (Nat×Nat×Nat):=[(0,(0,0)),(2,(0,0)),(4,(4,0)),(1,(1,0)),(3,(2,0)),(4,(3,0)),(5,(2,0))]
@[go_sem] def u68:List (Nat×Nat×Nat):=[(0,(0,0)),(2,(0,0)),(8,(4,0)),(9,(4,0)),(1,(1,0)),(3,(2,0)),(4,(5,0)),(5,(5,0)),(6,(5,0)),(7,(5,0)),(8,(3,0)),(9,(3,0)),(10,(2,0)),(11,(2,0)),(12,(5,0))]
@[go_sem] def u69:List (Nat×Nat×Nat):=[(0,(0,0)),(1,(4,0)),(7,(4,0)),(1,(3,0)),(2,(1,0)),(3,(2,0)),(4,(5,0)),(5,(5,0)),(6,(5,0)),(7,(3,0)),(8,(2,0)),(9,(5,0))]
@[go_sem] def u70:List (Nat×Nat×Nat):=[(0,(0,0)),(2,(0,0)),(4,(0,0)),(1,(1,0)),(3,(1,0)),(5,(5,0)),(6,(2,0))]
@[go_sem] def u71:List (Nat×Nat×Nat):=[(0,(5,0)),(5,(5,0)),(1,(0,0)),(2,(0,0)),(6,(0,0)),(7,(0,0)),(3,(1,0)),(4,(1,0)),(8,(1,0)),(9,(2,0)),(10,(2,0)),(11,(5,0))]
@[go_sem] def u72:List (Nat×Nat×Nat):=[(0,(5,0)),(1,(0,0)),(2,(0,0)),(9,(4,0)),(10,(4,0)),(3,(1,0)),(4,(2,0)),(5,(5,0)),(6,(5,0)),(7,(5,0)),(8,(5,0)),(9,(3,0)),(10,(3,0)),(11,(2,0)),(12,(2,0)),(13,(5,0))]
@[go_sem] def u73:List (Nat×Nat×Nat):=[(1,(5,0)),(4,(5,0)),(0,(0,0)),(2,(0,0)),(5,(0,0)),(3,(1,0)),(6,(5,0)),(7,(2,0)),(8,(2,0))]
@[go_sem] def u74:List (Nat×Nat×Nat):=[(0,(5,0)),(1,(0,0)),(4,(0,0)),(2,(1,0)),(3,(1,0)),(5,(2,0)),(6,(2,0)),(7,(5,0)),(8,(5,0)),(9,(5,0)),(10,(5,0))]
@[go_sem] def u75:List (Nat×Nat×Nat):=[(0,(5,0)),(5,(5,0)),(6,(5,0)),(1,(0,0)),(2,(5,0)),(7,(0,0)),(8,(5,0)),(3,(4,0)),(13,(4,0)),(3,(3,0)),(4,(1,0)),(9,(2,0)),(10,(5,0)),(11,(5,0)),(12,(5,0)),(13,(3,0)),(14,(2,0)),(15,(5,0))]
@[go_sem] def u76:List (Nat×Nat×Nat):=[(0,(0,0)),(1,(8,2)),(3,(2,0))]
@[go_sem] def u77:List (Nat×Nat×Nat):=[(0,(5,0)),(2,(5,0)),(1,(0,0)),(3,(0,0)),(4,(5,0)),(5,(0,0)),(6,(2,0)),(7,(5,0)),(8,(5,0)),(9,(5,0)),(10,(5,0)),(11,(5,0))]
@[go_sem] def u78:List (Nat×Nat×Nat):=[(0,(5,0)),(2,(5,0)),(5,(5,0)),(7,(5,0)),(1,(0,0)),(3,(0,0)),(4,(5,0)),(6,(0,0)),(8,(0,0)),(9,(1,0)),(10,(2,0)),(11,(2,0))]
@[go_sem] def u79:List (Nat×Nat×Nat):=[(0,(0,0)),(1,(1,0)),(2,(1,0)),(3,(2,0)),(4,(2,0))]
@[go_sem] def u80:List (Nat×Nat×Nat):=[(0,(5,0)),(2,(5,0)),(1,(0,0)),(3,(0,0)),(4,(5,0)),(5,(0,0)),(7,(0,0)),(6,(1,0)),(8,(2,0)),(9,(2,0)),(10,(2,0)),(11,(5,0))]
@[go_sem] def u81:List (Nat×Nat×Nat):=[(0,(5,0)),(5,(5,0)),(1,(0,0)),(2,(0,0)),(6,(0,0)),(7,(0,0)),(11,(0,0)),(13,(0,0)),(3,(1,0)),(4,(1,0)),(8,(1,0)),(9,(1,0)),(10,(1,0)),(12,(1,0)),(14,(2,0)),(15,(2,0)),(16,(2,0)),(17,(2,0))]
@[go_sem] def u82:List (Nat×Nat×Nat):=[(0,(5,0)),(1,(0,0)),(2,(1,0)),(3,(1,0)),(4,(2,0)),(5,(2,0))]
@[go_sem] def u83:List (Nat×Nat×Nat):=[(0,(5,0)),(2,(5,0)),(5,(5,0)),(7,(5,0)),(1,(0,0)),(3,(5,0)),(4,(0,0)),(10,(5,0)),(6,(0,0)),(8,(5,0)),(9,(0,0)),(11,(5,0))]
@[go_sem] def u84:List (Nat×Nat×Nat):=[(0,(5,0)),(1,(5,0)),(2,(5,0)),(4,(5,0)),(5,(5,0)),(6,(5,0)),(7,(5,0)),(9,(5,0)),(10,(5,0)),(3,(0,0)),(8,(0,0)),(11,(5,0)),(12,(5,0)),(13,(5,0)),(14,(2,0))]
@[go_sem] def u85:List (Nat×Nat×Nat):=[(0,(5,0)),(2,(5,0)),(3,(5,0)),(4,(5,0)),(6,(5,0)),(1,(2,0)),(5,(2,0)),(7,(2,0)),(8,(2,0)),(9,(2,0)),(10,(5,0))]
@[go_sem] def u86:List (Nat×Nat×Nat):=[(0,(5,0)),(2,(5,0)),(4,(5,0)),(1,(0,0)),(3,(0,0)),(5,(0,0)),(6,(1,0)),(7,(2,0)),(8,(2,0))]
@[go_sem] def u87:List (Nat×Nat×Nat):=[(0,(5,0)),(1,(5,0)),(2,(5,0)),(3,(5,0)),(4,(5,0)),(5,(5,0)),(6,(5,0)),(7,(5,0))]
@[go_sem] def u88:List (Nat×Nat×Nat):=[(0,(5,0)),(1,(5,0)),(2,(5,0)),(4,(5,0)),(5,(5,0)),(6,(5,0)),(7,(5,0)),(3,(0,0)),(8,(0,0)),(9,(5,0))]
@[go_sem] def u89:List (Nat×Nat×Nat):=[(0,(5,0)),(1,(5,0)),(2,(5,0)),(4,(5,0)),(5,(5,0)),(6,(5,0)),(7,(5,0)),(9,(5,0)),(10,(5,0)),(11,(5,0)),(12,(5,0)),(3,(0,0)),(8,(0,0)),(13,(0,0)),(14,(2,0)),(15,(5,0)),(16,(5,0)),(17,(5,0)),(18,(5,0))]
@[go_sem] def u90:List (Nat×Nat×Nat):=[(0,(5,0)),(1,(5,0)),(2,(5,0)),(3,(5,0)),(4,(5,0)),(5,(5,0)),(6,(5,0)),(7,(5,0)),(8,(5,0)),(9,(5,0))]
@[go_sem] def u91:List (Nat×Nat×Nat):=[(2,(5,0)),(3,(0,0)),(0,(4,0)),(8,(4,0)),(0,(3,0)),(1,(1,0)),(4,(2,0)),(5,(5,0)),(6,(5,0)),(7,(5,0)),(8,(3,0)),(9,(2,0)),(10,(5,0))]
@[go_sem] def u92:List (Nat×Nat×Nat):=[(0,(0,0)),(2,(5,0)),(1,(8,3)),(4,(5,0)),(5,(2,0))]
@[go_sem] def u93:List (Nat×Nat×Nat):=[(0,(5,0)),(2,(5,0)),(4,(5,0)),(6,(5,0)),(1,(0,0)),(5,(0,0)),(3,(1,0)),(7,(2,0)),(8,(5,0))]
def pl:aI:=fun _=> []
section
variable {u v:V} {σ:St} {F:FV} {kv:KV} {ks:KS} {e:Bool} {i:IntKind} {a:Int} {o z i' off len m:Nat} {l:List (List PV)} {us:List V} {β:Type} {L:List β} {f:β→List PV} {lo hi:Option V}
def pl5:aI:=fun id=>match id with
 | 9=>u0
 | _=> []
theorem ahl:pl5 9=u0:=(rfl)
def pl6:aI:=fun id=>match id with
 | 20=>u92
 | 22=>u93
 | 25=>u93
 | 28=>u93
 | 13=>u93
 | _=> []
def J9:aI:=fun id=>match id with
 | 8=>u1
 | 24=>u2
 | 28=>u3
 | 38=>u4
 | _=> []
theorem ahc:J9 8=u1:=(rfl)
theorem afs:J9 24=u2:=(rfl)
theorem agE:J9 28=u3:=(rfl)
theorem afX:J9 38=u4:=(rfl)
def lZ:aI:=fun id=>match id with
 | 6=>u5
 | _=> []
theorem aex:lZ 6=u5:=(rfl)
def X8:aI:=fun id=>match id with
 | 6=>u6
 | _=> []
theorem af5:X8 6=u6:=(rfl)
def Lj:aI:=fun id=>match id with
 | 5=>u7
 | 7=>u7
 | _=> []
theorem af6:Lj 5=u7:=(rfl)
theorem afO:Lj 7=u7:=(rfl)
def QI:aI:=fun id=>match id with
 | 4=>u8
 | _=> []
theorem agq:QI 4=u8:=(rfl)
def P3:aI:=fun id=>match id with
 | 6=>u9
 | _=> []
theorem afG:P3 6=u9:=(rfl)
def HS:aI:=fun id=>match id with
 | 9=>u10
 | _=> []
theorem afU:HS 9=u10:=(rfl)
def Hy:aI:=fun id=>match id with
 | 10=>u11
 | _=> []
theorem Z7:Hy 10=u11:=(rfl)
def Y6:aI:=fun id=>match id with
 | 5=>u12
 | _=> []
theorem afE:Y6 5=u12:=(rfl)
def Wd:aI:=fun id=>match id with
 | 3=>u13
 | _=> []
theorem aeI:Wd 3=u13:=(rfl)
def VV:aI:=fun id=>match id with
 | 16=>u14
 | _=> []
theorem aaI:VV 16=u14:=(rfl)
def X5:aI:=fun id=>match id with
 | 2=>u15
 | _=> []
theorem agV:X5 2=u15:=(rfl)
def Zk:aI:=fun id=>match id with
 | 4=>u16
 | _=> []
theorem af3:Zk 4=u16:=(rfl)
def xb:aI:=fun id=>match id with
 | 5=>u17
 | 8=>u18
 | 11=>u19
 | _=> []
theorem af1:xb 5=u17:=(rfl)
theorem afr:xb 8=u18:=(rfl)
theorem abD:xb 11=u19:=(rfl)
def Ri:aI:=fun id=>match id with
 | 5=>u20
 | 6=>u20
 | _=> []
theorem afR:Ri 5=u20:=(rfl)
theorem afF:Ri 6=u20:=(rfl)
def tg:aI:=fun id=>match id with
 | 11=>u21
 | 13=>u22
 | 18=>u23
 | 21=>u24
 | 24=>u24
 | _=> []
theorem acS:tg 11=u21:=(rfl)
theorem adG:tg 13=u22:=(rfl)
def bG:List (Nat×Nat×Nat):=[(3,(11,0)),(5,(11,0)),(7,(12,0))]
theorem Te {K:KR} {all:List Oper} {ρ:Vg}:bY true Tryz.prog all.toArray [(3,(10,168)),(3,(11,0)),(5,(11,0)),(7,(12,0)),(8,(2,0)),(9,(5,0)),(10,(5,0)),(11,(5,0)),(12,(5,0)),(13,(2,0)),(14,(5,0))] ρ σ K=bB Tryz.prog all.toArray bG 3 168 true ρ σ fun τ ρ' σ'=>bY τ Tryz.prog all.toArray [(8,(2,0)),(9,(5,0)),(10,(5,0)),(11,(5,0)),(12,(5,0)),(13,(2,0)),(14,(5,0))] ρ' σ' K:=(rfl)
theorem JU {K:KR} {all:List Oper} {ρ:Vg}:bB Tryz.prog all.toArray bG 3 168 true ρ σ K=((bR all 3 fun o=>cG true Tryz.prog o ρ σ 1 fun τ u σ'=>bB Tryz.prog all.toArray bG 2 160 τ (bq ρ o.dst u) σ' K)∧(bR all 5 fun o=>cG true Tryz.prog o ρ σ 1 fun τ u σ'=>bB Tryz.prog all.toArray bG 2 136 τ (bq ρ o.dst u) σ' K)∧(bR all 7 fun o=>cG true Tryz.prog o ρ σ 2 fun τ u σ'=>bB Tryz.prog all.toArray bG 2 40 τ (bq ρ o.dst u) σ' K)∧True):=(rfl)
theorem J3 {K:KR} {all:List Oper} {ρ:Vg}:bB Tryz.prog all.toArray bG 2 160 true ρ σ K=((bR all 5 fun o=>cG true Tryz.prog o ρ σ 1 fun τ u σ'=>bB Tryz.prog all.toArray bG 1 128 τ (bq ρ o.dst u) σ' K)∧(bR all 7 fun o=>cG true Tryz.prog o ρ σ 2 fun τ u σ'=>bB Tryz.prog all.toArray bG 1 32 τ (bq ρ o.dst u) σ' K)∧True):=(rfl)
theorem J6 {K:KR} {all:List Oper} {ρ:Vg}:bB Tryz.prog all.toArray bG 2 136 true ρ σ K=((bR all 3 fun o=>cG true Tryz.prog o ρ σ 1 fun τ u σ'=>bB Tryz.prog all.toArray bG 1 128 τ (bq ρ o.dst u) σ' K)∧(bR all 7 fun o=>cG true Tryz.prog o ρ σ 2 fun τ u σ'=>bB Tryz.prog all.toArray bG 1 8 τ (bq ρ o.dst u) σ' K)∧True):=(rfl)
theorem KT {K:KR} {all:List Oper} {ρ:Vg}:bB Tryz.prog all.toArray bG 2 40 true ρ σ K=((bR all 3 fun o=>cG true Tryz.prog o ρ σ 1 fun τ u σ'=>bB Tryz.prog all.toArray bG 1 32 τ (bq ρ o.dst u) σ' K)∧(bR all 5 fun o=>cG true Tryz.prog o ρ σ 1 fun τ u σ'=>bB Tryz.prog all.toArray bG 1 8 τ (bq ρ o.dst u) σ' K)∧True):=(rfl)
theorem Kf {K:KR} {all:List Oper} {ρ:Vg}:bB Tryz.prog all.toArray bG 1 128 true ρ σ K=((bR all 7 fun o=>cG true Tryz.prog o ρ σ 2 fun τ u σ'=>bB Tryz.prog all.toArray bG 0 0 τ (bq ρ o.dst u) σ' K)∧True):=(rfl)
theorem Nc {K:KR} {all:List Oper} {ρ:Vg}:bB Tryz.prog all.toArray bG 1 32 true ρ σ K=((bR all 5 fun o=>cG true Tryz.prog o ρ σ 1 fun τ u σ'=>bB Tryz.prog all.toArray bG 0 0 τ (bq ρ o.dst u) σ' K)∧True):=(rfl)
theorem ON {K:KR} {all:List Oper} {ρ:Vg}:bB Tryz.prog all.toArray bG 1 8 true ρ σ K=((bR all 3 fun o=>cG true Tryz.prog o ρ σ 1 fun τ u σ'=>bB Tryz.prog all.toArray bG 0 0 τ (bq ρ o.dst u) σ' K)∧True):=(rfl)
theorem acL:tg 18=u23:=(rfl)
def fb:List (Nat×Nat×Nat):=[(3,(11,0)),(9,(12,0))]
theorem Rv {K:KR} {all:List Oper} {ρ:Vg}:bY true Tryz.prog all.toArray [(2,(10,520)),(3,(11,0)),(9,(12,0)),(10,(2,0)),(11,(5,0)),(12,(5,0)),(13,(5,0)),(14,(5,0)),(15,(2,0)),(16,(5,0))] ρ σ K=bB Tryz.prog all.toArray fb 2 520 true ρ σ fun τ ρ' σ'=>bY τ Tryz.prog all.toArray [(10,(2,0)),(11,(5,0)),(12,(5,0)),(13,(5,0)),(14,(5,0)),(15,(2,0)),(16,(5,0))] ρ' σ' K:=(rfl)
theorem J1 {K:KR} {all:List Oper} {ρ:Vg}:bB Tryz.prog all.toArray fb 2 520 true ρ σ K=((bR all 3 fun o=>cG true Tryz.prog o ρ σ 1 fun τ u σ'=>bB Tryz.prog all.toArray fb 1 512 τ (bq ρ o.dst u) σ' K)∧(bR all 9 fun o=>cG true Tryz.prog o ρ σ 2 fun τ u σ'=>bB Tryz.prog all.toArray fb 1 8 τ (bq ρ o.dst u) σ' K)∧True):=(rfl)
theorem J5 {K:KR} {all:List Oper} {ρ:Vg}:bB Tryz.prog all.toArray fb 1 512 true ρ σ K=((bR all 9 fun o=>cG true Tryz.prog o ρ σ 2 fun τ u σ'=>bB Tryz.prog all.toArray fb 0 0 τ (bq ρ o.dst u) σ' K)∧True):=(rfl)
theorem NJ {K:KR} {all:List Oper} {ρ:Vg}:bB Tryz.prog all.toArray fb 1 8 true ρ σ K=((bR all 3 fun o=>cG true Tryz.prog o ρ σ 1 fun τ u σ'=>bB Tryz.prog all.toArray fb 0 0 τ (bq ρ o.dst u) σ' K)∧True):=(rfl)
theorem abN:tg 21=u24:=(rfl)
def cF:List (Nat×Nat×Nat):=[(3,(11,0)),(7,(12,0)),(8,(11,128))]
theorem RK {K:KR} {all:List Oper} {ρ:Vg}:bY true Tryz.prog all.toArray [(3,(10,392)),(3,(11,0)),(7,(12,0)),(8,(11,128)),(9,(2,0)),(10,(5,0)),(11,(5,0)),(12,(5,0)),(13,(5,0)),(14,(2,0)),(15,(5,0))] ρ σ K=bB Tryz.prog all.toArray cF 3 392 true ρ σ fun τ ρ' σ'=>bY τ Tryz.prog all.toArray [(9,(2,0)),(10,(5,0)),(11,(5,0)),(12,(5,0)),(13,(5,0)),(14,(2,0)),(15,(5,0))] ρ' σ' K:=(rfl)
theorem Kg {K:KR} {all:List Oper} {ρ:Vg}:bB Tryz.prog all.toArray cF 3 392 true ρ σ K=((bR all 3 fun o=>cG true Tryz.prog o ρ σ 1 fun τ u σ'=>bB Tryz.prog all.toArray cF 2 384 τ (bq ρ o.dst u) σ' K)∧(bR all 7 fun o=>cG true Tryz.prog o ρ σ 2 fun τ u σ'=>bB Tryz.prog all.toArray cF 2 264 τ (bq ρ o.dst u) σ' K)∧True):=(rfl)
theorem JY {K:KR} {all:List Oper} {ρ:Vg}:bB Tryz.prog all.toArray cF 2 384 true ρ σ K=((bR all 7 fun o=>cG true Tryz.prog o ρ σ 2 fun τ u σ'=>bB Tryz.prog all.toArray cF 1 256 τ (bq ρ o.dst u) σ' K)∧True):=(rfl)
theorem JQ {K:KR} {all:List Oper} {ρ:Vg}:bB Tryz.prog all.toArray cF 2 264 true ρ σ K=((bR all 3 fun o=>cG true Tryz.prog o ρ σ 1 fun τ u σ'=>bB Tryz.prog all.toArray cF 1 256 τ (bq ρ o.dst u) σ' K)∧(bR all 8 fun o=>cG true Tryz.prog o ρ σ 1 fun τ u σ'=>bB Tryz.prog all.toArray cF 1 8 τ (bq ρ o.dst u) σ' K)∧True):=(rfl)
theorem JX {K:KR} {all:List Oper} {ρ:Vg}:bB Tryz.prog all.toArray cF 1 256 true ρ σ K=((bR all 8 fun o=>cG true Tryz.prog o ρ σ 1 fun τ u σ'=>bB Tryz.prog all.toArray cF 0 0 τ (bq ρ o.dst u) σ' K)∧True):=(rfl)
theorem NF {K:KR} {all:List Oper} {ρ:Vg}:bB Tryz.prog all.toArray cF 1 8 true ρ σ K=((bR all 3 fun o=>cG true Tryz.prog o ρ σ 1 fun τ u σ'=>bB Tryz.prog all.toArray cF 0 0 τ (bq ρ o.dst u) σ' K)∧True):=(rfl)
theorem aby:tg 24=u24:=(rfl)
def Us:List (Nat×Nat×Nat):=[(3,(11,0)),(7,(12,0)),(8,(11,128))]
def YG:aI:=fun id=>match id with
 | 6=>u6
 | _=> []
theorem agy:YG 6=u6:=(rfl)
def ZO:aI:=fun id=>match id with
 | 1=>u25
 | _=> []
theorem aes:ZO 1=u25:=(rfl)
def Ij:aI:=fun id=>match id with
 | 6=>u26
 | _=> []
theorem aez:Ij 6=u26:=(rfl)
def XC:aI:=fun id=>match id with
 | 1=>u27
 | _=> []
theorem aeS:XC 1=u27:=(rfl)
def PE:aI:=fun id=>match id with
 | 1=>u28
 | _=> []
theorem afz:PE 1=u28:=(rfl)
def He:aI:=fun id=>match id with
 | 1=>u29
 | _=> []
theorem agH:He 1=u29:=(rfl)
def KH:aI:=fun id=>match id with
 | 2=>u30
 | _=> []
theorem aeg:KH 2=u30:=(rfl)
def Qy:aI:=fun id=>match id with
 | 1=>u31
 | _=> []
theorem aee:Qy 1=u31:=(rfl)
def Yv:aI:=fun id=>match id with
 | 13=>u32
 | _=> []
theorem Z9:Yv 13=u32:=(rfl)
def V7:aI:=fun id=>match id with
 | 6=>u33
 | _=> []
theorem aeQ:V7 6=u33:=(rfl)
def PT:aI:=fun id=>match id with
 | 5=>u34
 | 8=>u35
 | _=> []
theorem agW:PT 5=u34:=(rfl)
theorem aep:PT 8=u35:=(rfl)
def ZQ:aI:=fun id=>match id with
 | 2=>u36
 | _=> []
theorem afm:ZQ 2=u36:=(rfl)
def Zw:aI:=fun id=>match id with
 | 7=>u37
 | _=> []
theorem ad7:Zw 7=u37:=(rfl)
def QT:aI:=fun id=>match id with
 | 2=>u38
 | _=> []
theorem agX:QT 2=u38:=(rfl)
def bU:List (Nat×Nat×Nat):=[(11,(11,0)),(12,(11,2048)),(13,(11,4096)),(15,(12,0))]
theorem S7 {K:KR} {all:List Oper} {ρ:Vg}:bY true Tryz.prog all.toArray [(4,(10,47104)),(11,(11,0)),(12,(11,2048)),(13,(11,4096)),(15,(12,0)),(16,(5,0)),(17,(2,0))] ρ σ K=bB Tryz.prog all.toArray bU 4 47104 true ρ σ fun τ ρ' σ'=>bY τ Tryz.prog all.toArray [(16,(5,0)),(17,(2,0))] ρ' σ' K:=(rfl)
theorem FZ {K:KR} {all:List Oper} {ρ:Vg}:bB Tryz.prog all.toArray bU 4 47104 true ρ σ K=((bR all 11 fun o=>cG true Tryz.prog o ρ σ 1 fun τ u σ'=>bB Tryz.prog all.toArray bU 3 45056 τ (bq ρ o.dst u) σ' K)∧(bR all 15 fun o=>cG true Tryz.prog o ρ σ 2 fun τ u σ'=>bB Tryz.prog all.toArray bU 3 14336 τ (bq ρ o.dst u) σ' K)∧True):=(rfl)
theorem F9 {K:KR} {all:List Oper} {ρ:Vg}:bB Tryz.prog all.toArray bU 3 45056 true ρ σ K=((bR all 12 fun o=>cG true Tryz.prog o ρ σ 1 fun τ u σ'=>bB Tryz.prog all.toArray bU 2 40960 τ (bq ρ o.dst u) σ' K)∧(bR all 15 fun o=>cG true Tryz.prog o ρ σ 2 fun τ u σ'=>bB Tryz.prog all.toArray bU 2 12288 τ (bq ρ o.dst u) σ' K)∧True):=(rfl)
theorem FM {K:KR} {all:List Oper} {ρ:Vg}:bB Tryz.prog all.toArray bU 3 14336 true ρ σ K=((bR all 11 fun o=>cG true Tryz.prog o ρ σ 1 fun τ u σ'=>bB Tryz.prog all.toArray bU 2 12288 τ (bq ρ o.dst u) σ' K)∧True):=(rfl)
theorem FW {K:KR} {all:List Oper} {ρ:Vg}:bB Tryz.prog all.toArray bU 2 40960 true ρ σ K=((bR all 13 fun o=>cG true Tryz.prog o ρ σ 1 fun τ u σ'=>bB Tryz.prog all.toArray bU 1 32768 τ (bq ρ o.dst u) σ' K)∧(bR all 15 fun o=>cG true Tryz.prog o ρ σ 2 fun τ u σ'=>bB Tryz.prog all.toArray bU 1 8192 τ (bq ρ o.dst u) σ' K)∧True):=(rfl)
theorem FP {K:KR} {all:List Oper} {ρ:Vg}:bB Tryz.prog all.toArray bU 2 12288 true ρ σ K=((bR all 12 fun o=>cG true Tryz.prog o ρ σ 1 fun τ u σ'=>bB Tryz.prog all.toArray bU 1 8192 τ (bq ρ o.dst u) σ' K)∧True):=(rfl)
theorem FT {K:KR} {all:List Oper} {ρ:Vg}:bB Tryz.prog all.toArray bU 1 32768 true ρ σ K=((bR all 15 fun o=>cG true Tryz.prog o ρ σ 2 fun τ u σ'=>bB Tryz.prog all.toArray bU 0 0 τ (bq ρ o.dst u) σ' K)∧True):=(rfl)
theorem G0 {K:KR} {all:List Oper} {ρ:Vg}:bB Tryz.prog all.toArray bU 1 8192 true ρ σ K=((bR all 13 fun o=>cG true Tryz.prog o ρ σ 1 fun τ u σ'=>bB Tryz.prog all.toArray bU 0 0 τ (bq ρ o.dst u) σ' K)∧True):=(rfl)
def QX:aI:=fun id=>match id with
 | 4=>u39
 | _=> []
theorem agr:QX 4=u39:=(rfl)
def Va:aI:=fun id=>match id with
 | 3=>u40
 | _=> []
theorem aeD:Va 3=u40:=(rfl)
def Vs:aI:=fun id=>match id with
 | 2=>u41
 | _=> []
theorem ago:Vs 2=u41:=(rfl)
def Df:aI:=fun id=>match id with
 | 1=>u42
 | _=> []
theorem abw:Df 1=u42:=(rfl)
def NI:aI:=fun id=>match id with
 | 1=>u43
 | _=> []
theorem aat:NI 1=u43:=(rfl)
def N3:aI:=fun id=>match id with
 | 4=>u44
 | _=> []
theorem acq:N3 4=u44:=(rfl)
def Jp:aI:=fun id=>match id with
 | 9=>u45
 | 14=>u46
 | _=> []
theorem aah:Jp 9=u45:=(rfl)
theorem VY:Jp 14=u46:=(rfl)
def O7:aI:=fun id=>match id with
 | 25=>u14
 | _=> []
theorem Xv:O7 25=u14:=(rfl)
def O6:aI:=fun id=>match id with
 | 1=>u47
 | _=> []
theorem aaU:O6 1=u47:=(rfl)
def CI:aI:=fun id=>match id with
 | 1=>u31
 | _=> []
theorem aa7:CI 1=u31:=(rfl)
def NA:aI:=fun id=>match id with
 | 6=>u6
 | _=> []
theorem adX:NA 6=u6:=(rfl)
def ID:aI:=fun id=>match id with
 | 1=>u48
 | _=> []
theorem aaY:ID 1=u48:=(rfl)
def NU:aI:=fun id=>match id with
 | 6=>u6
 | _=> []
theorem aaO:NU 6=u6:=(rfl)
def GK:aI:=fun id=>match id with
 | 1=>u49
 | _=> []
theorem adL:GK 1=u49:=(rfl)
def Jn:aI:=fun id=>match id with
 | 6=>u50
 | 9=>u51
 | _=> []
theorem adV:Jn 6=u50:=(rfl)
theorem adA:Jn 9=u51:=(rfl)
def O2:aI:=fun id=>match id with
 | 3=>u52
 | _=> []
theorem adW:O2 3=u52:=(rfl)
def Oi:aI:=fun id=>match id with
 | 3=>u53
 | _=> []
theorem adl:Oi 3=u53:=(rfl)
def O0:aI:=fun id=>match id with
 | 1=>u54
 | _=> []
theorem adO:O0 1=u54:=(rfl)
def G1:aI:=fun id=>match id with
 | 1=>u55
 | 4=>u56
 | _=> []
theorem aaG:G1 1=u55:=(rfl)
theorem ace:G1 4=u56:=(rfl)
def Nw:aI:=fun id=>match id with
 | 1=>u57
 | _=> []
theorem aa5:Nw 1=u57:=(rfl)
def Oh:aI:=fun id=>match id with
 | 1=>u58
 | _=> []
theorem acD:Oh 1=u58:=(rfl)
def NM:aI:=fun id=>match id with
 | 10=>u59
 | _=> []
theorem Vl:NM 10=u59:=(rfl)
def NH:aI:=fun id=>match id with
 | 3=>u60
 | _=> []
theorem adv:NH 3=u60:=(rfl)
def O9:aI:=fun id=>match id with
 | 1=>u61
 | _=> []
theorem acp:O9 1=u61:=(rfl)
def Dd:aI:=fun id=>match id with
 | 1=>u62
 | 5=>u63
 | _=> []
theorem acm:Dd 1=u62:=(rfl)
theorem ac4:Dd 5=u63:=(rfl)
def Ny:aI:=fun id=>match id with
 | 1=>u64
 | _=> []
theorem acI:Ny 1=u64:=(rfl)
def Nz:aI:=fun id=>match id with
 | 6=>u6
 | _=> []
theorem abc:Nz 6=u6:=(rfl)
def NG:aI:=fun id=>match id with
 | 6=>u6
 | _=> []
theorem aaA:NG 6=u6:=(rfl)
def OK:aI:=fun id=>match id with
 | 4=>u65
 | _=> []
theorem abf:OK 4=u65:=(rfl)
def NN:aI:=fun id=>match id with
 | 5=>u66
 | _=> []
theorem aao:NN 5=u66:=(rfl)
def xd:aI:=fun id=>match id with
 | 1=>u67
 | 2=>u68
 | 4=>u69
 | 5=>u70
 | _=> []
theorem abh:xd 1=u67:=(rfl)
theorem acw:xd 2=u68:=(rfl)
theorem adn:xd 4=u69:=(rfl)
theorem adz:xd 5=u70:=(rfl)
def O3:aI:=fun id=>match id with
 | 1=>u71
 | _=> []
theorem acN:O3 1=u71:=(rfl)
def Ot:aI:=fun id=>match id with
 | 1=>u72
 | _=> []
theorem abt:Ot 1=u72:=(rfl)
def O8:aI:=fun id=>match id with
 | 1=>u73
 | _=> []
theorem aau:O8 1=u73:=(rfl)
def Oa:aI:=fun id=>match id with
 | 3=>u74
 | _=> []
theorem abC:Oa 3=u74:=(rfl)
def Oq:aI:=fun id=>match id with
 | 1=>u75
 | _=> []
theorem acg:Oq 1=u75:=(rfl)
def NK:aI:=fun id=>match id with
 | 3=>u76
 | _=> []
theorem aak:NK 3=u76:=(rfl)
def OQ:aI:=fun id=>match id with
 | 6=>u77
 | _=> []
theorem adI:OQ 6=u77:=(rfl)
def OY:aI:=fun id=>match id with
 | 1=>u78
 | _=> []
theorem abe:OY 1=u78:=(rfl)
def Jj:aI:=fun id=>match id with
 | 5=>u79
 | 7=>u80
 | _=> []
theorem adU:Jj 5=u79:=(rfl)
theorem adw:Jj 7=u80:=(rfl)
def OV:aI:=fun id=>match id with
 | 1=>u81
 | _=> []
theorem aar:OV 1=u81:=(rfl)
def NC:aI:=fun id=>match id with
 | 1=>u82
 | _=> []
theorem adb:NC 1=u82:=(rfl)
def N0:aI:=fun id=>match id with
 | 7=>u83
 | _=> []
theorem aa8:N0 7=u83:=(rfl)
def N4:aI:=fun id=>match id with
 | 10=>u84
 | _=> []
theorem VB:N4 10=u84:=(rfl)
def OO:aI:=fun id=>match id with
 | 10=>u85
 | _=> []
theorem ZH:OO 10=u85:=(rfl)
def OH:aI:=fun id=>match id with
 | 2=>u86
 | _=> []
theorem abo:OH 2=u86:=(rfl)
def OF:aI:=fun id=>match id with
 | 6=>u87
 | _=> []
theorem aam:OF 6=u87:=(rfl)
def Ih:aI:=fun id=>match id with
 | 3=>u88
 | 4=>u89
 | _=> []
theorem abF:Ih 3=u88:=(rfl)
theorem aca:Ih 4=u89:=(rfl)
def OG:aI:=fun id=>match id with
 | 1=>u90
 | _=> []
theorem ab0:OG 1=u90:=(rfl)
def Oc:aI:=fun id=>match id with
 | 1=>u91
 | _=> []
theorem aa9:Oc 1=u91:=(rfl)
def OE:aI:=fun id=>match id with
 | 4=>u79
 | _=> []
theorem ac2:OE 4=u79:=(rfl)
theorem ab1:fe Tryz.prog 157 u σ F=fX u σ (some 1) F:=aS zk
theorem aaa:fO Tryz.prog 157 u v σ ks=bX v fun c=>aJ c 1 (iK u σ c ks):=bm zk
theorem Yn {ps:List (Nat×V)}:gK Tryz.prog 27 1 ps σ kv=fp 1 0 ps fun l=>aJ l 1 (bK σ (.row 1 l) fun o σ'=>kv true (.sl o 1 0 1) σ'):=dm (et:=67) zk ⟨by kernel_rfl,by decide,by decide⟩
theorem adi:dJ Tryz.prog 157 σ kv=aC ([.slice none 0 0]:List Value) (bK σ (.cells (([.slice none 0 0]:List Value).map V.lit)) fun o σ'=>kv true (.ref o 0 0 0) σ'):=bL zk
theorem acJ:fe Tryz.prog 321 u σ F=fX u σ (some 4) F:=aS zk
theorem acz:fO Tryz.prog 321 u v σ ks=bX v fun c=>aJ c 4 (iK u σ c ks):=bm zk
theorem RB:aK Tryz.prog 321 (.ref o z i' off) 3 F=F true (.ref o z i' (off+3)):=au (x:=3) (ag:=true) (m:=1) zk
theorem TA:aK Tryz.prog 321 (.ref o z i' off) 1 F=F true (.ref o z i' (off+1)):=au (x:=1) (ag:=false) (m:=1) zk
theorem aic:fO Tryz.prog 3 u v σ ks=bX v fun c=>aJ c 1 (iK u σ c ks):=bm zk
theorem Tl:aK Tryz.prog 321 (.ref o z i' off) 0 F=F true (.ref o z i' off):=au (x:=0) (ag:=false) (m:=1) zk
theorem aij:fe Tryz.prog 3 u σ F=fX u σ (none) F:=aS zk
theorem Tt:aK Tryz.prog 321 (.ref o z i' off) 2 F=F true (.ref o z i' (off+2)):=au (x:=2) (ag:=true) (m:=1) zk
theorem abr:dJ Tryz.prog 321 σ kv=aC ([.int .i64 0,.int .i64 0,.slice none 0 0,.slice none 0 0]:List Value) (bK σ (.cells (([.int .i64 0,.int .i64 0,.slice none 0 0,.slice none 0 0]:List Value).map V.lit)) fun o σ'=>kv true (.ref o 0 0 0) σ'):=bL zk
theorem Ud (h:m<l.length):cY Tryz.prog 100 (.row 1 l) (.lit (.int i (m:Int))) F=F true (.rref 1 l m 0):=dE (et:=3) zk zd h
theorem abk:eJ Tryz.prog e .len [100] [.row m l] σ kv=fB (.row m l) fun τ v=>kv τ v σ:=dY zk
theorem UD {ps:List (Nat×V)}:gK Tryz.prog 100 1 ps σ kv=fp 1 0 ps fun l=>aJ l 1 (bK σ (.row 1 l) fun o σ'=>kv true (.sl o 1 0 1) σ'):=dm (et:=3) zk ⟨by kernel_rfl,by decide,by decide⟩
theorem Ul (h:0≤a∧a≤18446744073709551615):mZ Tryz.prog 3 67 (.lit (.int i a)) F=F true (.lit (.int .u64 a)):=kC zk zk h
theorem VS:eS Tryz.prog 3 67 (.lit (.int i a)) σ F=F true (.lit (.int .u64 (IntKind.wrap .u64 a))):=(eN zk).trans (jL zk zk)
theorem Sl (h:0≤a∧a≤18446744073709551615):eS Tryz.prog 3 67 (.lit (.int i a)) σ F=F true (.lit (.int .u64 a)):=(eN zk).trans (kC zk zk h)
theorem YT:kY Tryz.prog 3 67 u σ kv=eS Tryz.prog 3 67 u σ fun τ u=>kv τ u σ:=gj zk
theorem T0:aK Tryz.prog 157 (.ref o z i' off) 0 F=F true (.ref o z i' off):=au (x:=0) (ag:=false) (m:=1) zk
theorem agI:fe Tryz.prog 27 u σ F=fX u σ (none) F:=aS zk
theorem agd (h:0≤a∧a<len):cY Tryz.prog 27 (.sl o 1 off len) (.lit (.int i a)) F=F true (.ref o 1 (off+a.toNat) 0):=vw (et:=67) zk h
theorem ad1 (h:m<len):cY Tryz.prog 27 (.sl o 1 off len) (.lit (.int i (m:Int))) F=F true (.ref o 1 (off+m) 0):=mY (et:=67) zk h
theorem acf (h:0≤a∧a<l.length):cY Tryz.prog 27 (.row 1 l) (.lit (.int i a)) F=F true (.rref 1 l a.toNat 0):=yf (et:=67) zk zd h
theorem Xz (h:m<l.length):cY Tryz.prog 27 (.row 1 l) (.lit (.int i (m:Int))) F=F true (.rref 1 l m 0):=dE (et:=67) zk zd h
theorem adM (h:0≤a∧a<L.length):cY Tryz.prog 27 (.row 1 (L.map f)) (.lit (.int i a)) F=F true (.rref 1 (L.map f) a.toNat 0):=lE (et:=67) zk zd h
theorem aeX:fe Tryz.prog 67 u σ F=fX u σ (none) F:=aS zk
theorem afI:eJ Tryz.prog e .len [27] [.row m l] σ kv=fB (.row m l) fun τ v=>kv τ v σ:=dY zk
theorem ack:eJ Tryz.prog e .len [27] [.sl o m off len] σ kv=fB (.sl o m off len) fun τ v=>kv τ v σ:=lu zk
theorem Zn:eS Tryz.prog 67 3 (.lit (.int i a)) σ F=F true (.lit (.int .i64 (IntKind.wrap .i64 a))):=(eN zk).trans (jL zk zk)
theorem S5 (h: -9223372036854775808≤a∧a≤9223372036854775807):eS Tryz.prog 67 3 (.lit (.int i a)) σ F=F true (.lit (.int .i64 a)):=(eN zk).trans (xn zk zk h)
theorem XA:kY Tryz.prog 67 3 u σ kv=eS Tryz.prog 67 3 u σ fun τ u=>kv τ u σ:=gj zk
theorem agl:fO Tryz.prog 67 u v σ ks=bX v fun c=>aJ c 1 (iK u σ c ks):=bm zk
theorem BO {P:Program} {t:TypeId}:aO P .and t (.lit (.int .u64 a)) (.lit (.int .u64 4294967295)) F=F true (.lit (.int .u64 (a%4294967296))):=dr 32 zd zd zd
theorem FU {P:Program} {t:TypeId}:aO P .shr t (.lit (.int .u64 a)) (.lit (.int .u64 32)) F=F true (.lit (.int .u64 (a/4294967296))):=by rw[fr zd];rfl
theorem Pe (h:0≤a∧a≤18446744073709551615):mZ Tryz.prog 3 202 (.lit (.int i a)) F=F true (.lit (.int .u64 a)):=kC zk zk h
theorem Q8 (h:0≤a∧a≤18446744073709551615):eS Tryz.prog 3 202 (.lit (.int i a)) σ F=F true (.lit (.int .u64 a)):=(eN zk).trans (kC zk zk h)
theorem TW:kY Tryz.prog 3 202 u σ kv=eS Tryz.prog 3 202 u σ fun τ u=>kv τ u σ:=gj zk
theorem Ts:aK Tryz.prog 232 (.ref o z i' off) 1 F=F true (.ref o z i' (off+1)):=au (x:=1) (ag:=false) (m:=1) zk
theorem ahU:fe Tryz.prog 4 u σ F=fX u σ (none) F:=aS zk
theorem abB:fO Tryz.prog 232 u v σ ks=bX v fun c=>aJ c 2 (iK u σ c ks):=bm zk
theorem Sv:aK Tryz.prog 232 (.ref o z i' off) 0 F=F true (.ref o z i' off):=au (x:=0) (ag:=true) (m:=1) zk
theorem aeN {x y:Bool}:aO Tryz.prog .eql 4 (.lit (.bool x)) (.lit (.bool y)) F=F true (.lit (.bool (x==y))):=Gz zk
theorem acZ:dJ Tryz.prog 232 σ kv=aC ([.slice none 0 0,.bool false]:List Value) (bK σ (.cells (([.slice none 0 0,.bool false]:List Value).map V.lit)) fun o σ'=>kv true (.ref o 0 0 0) σ'):=bL zk
theorem aff:oZ Tryz.prog 27 u v σ kv=jU 1 8 [.int .u64 0] u v σ kv:=nC (et:=67) zk zk zk
theorem QO (h:0≤a∧a*8≤140737488355328):jU 1 8 [.int .u64 0] (.lit (.int .i64 a)) (.lit (.int .i64 a)) σ kv=bK σ (.row 1 (dQ [.int .u64 0] a.toNat)) fun o σ'=>kv true (.sl o 1 0 a.toNat) σ':=by
 rw[pU (C:=[.int .u64 0]) (z:=1) ⟨h.1,rfl,h.2,by omega,by decide⟩ rfl];simp[aC,bF]
theorem abi (h:m*8≤140737488355328):jU 1 8 [.int .u64 0] (.lit (.int .i64 (m:Int))) (.lit (.int .i64 (m:Int))) σ kv=bK σ (.row 1 (dQ [.int .u64 0] m)) fun o σ'=>kv true (.sl o 1 0 m) σ':=QO zo
theorem afl:mB Tryz.prog 27 (.sl o 1 off len) lo hi none F=dW hi len len fun h=>dW lo 0 h fun l=>F true (.sl o 1 (off+l) (h-l)):=Kp (et:=67) zk
theorem abL:mB Tryz.prog 27 (.row 1 (L.map f)) lo hi none F=dW hi L.length L.length fun h=>dW lo 0 h fun x=>F true (.row 1 (((L.take h).drop x).map f)):=oG (et:=67) zk
theorem aaT {ps:List (Nat×V)}:dI Tryz.prog 157 ps F=aC ([.slice none 0 0]:List Value) (az (aE Tryz.prog 157) ps (([.slice none 0 0]:List Value).map V.lit) fun l=>F true (.agg l)):=bE zk zk zk
theorem Sq:aK Tryz.prog 234 (.ref o z i' off) 1 F=F true (.ref o z i' (off+2)):=au (x:=2) (ag:=true) (m:=1) zk
theorem agN {x y:Bool}:aO Tryz.prog .neq 4 (.lit (.bool x)) (.lit (.bool y)) F=F true (.lit (.bool (!(x==y)))):=JA zk
theorem Uz:aK Tryz.prog 234 (.ref o z i' off) 0 F=F true (.ref o z i' off):=au (x:=0) (ag:=true) (m:=2) zk
theorem abY:fe Tryz.prog 232 u σ F=fX u σ (some 2) F:=aS zk
theorem abK:fe Tryz.prog 234 u σ F=fX u σ (some 3) F:=aS zk
theorem aaX:fO Tryz.prog 234 u v σ ks=bX v fun c=>aJ c 3 (iK u σ c ks):=bm zk
theorem adh:dJ Tryz.prog 234 σ kv=aC ([.slice none 0 0,.bool false,.slice none 0 0]:List Value) (bK σ (.cells (([.slice none 0 0,.bool false,.slice none 0 0]:List Value).map V.lit)) fun o σ'=>kv true (.ref o 0 0 0) σ'):=bL zk
theorem ac9 {ps:List (Nat×V)}:dI Tryz.prog 232 ps F=aC ([.slice none 0 0,.bool false]:List Value) (az (aE Tryz.prog 232) ps (([.slice none 0 0,.bool false]:List Value).map V.lit) fun l=>F true (.agg l)):=bE zk zk zk
theorem acA:fe Tryz.prog 131 u σ F=fX u σ (some 3) F:=aS zk
theorem abZ:fO Tryz.prog 131 u v σ ks=bX v fun c=>aJ c 3 (iK u σ c ks):=bm zk
theorem UP:aK Tryz.prog 131 (.ref o z i' off) 1 F=F true (.ref o z i' (off+1)):=au (x:=1) (ag:=false) (m:=1) zk
theorem Tq:aK Tryz.prog 131 (.ref o z i' off) 0 F=F true (.ref o z i' off):=au (x:=0) (ag:=false) (m:=1) zk
theorem ads:dJ Tryz.prog 131 σ kv=aC ([.int .i64 0,.int .i64 0,.bool false]:List Value) (bK σ (.cells (([.int .i64 0,.int .i64 0,.bool false]:List Value).map V.lit)) fun o σ'=>kv true (.ref o 0 0 0) σ'):=bL zk
theorem aa4:fe Tryz.prog 274 u σ F=fX u σ (some 256) F:=aS zk
theorem adf:fO Tryz.prog 274 u v σ ks=bX v fun c=>aJ c 256 (iK u σ c ks):=bm zk
theorem ab2 (h:0≤a∧a<256):cY Tryz.prog 274 (.ref o 0 0 off) (.lit (.int i a)) F=F true (.ref o 1 a.toNat off):=K9 (et:=198) zk h
theorem Wq (h:m<256):cY Tryz.prog 274 (.ref o 0 0 off) (.lit (.int i (m:Int))) F=F true (.ref o 1 m off):=I7 (et:=198) zk h
theorem aaL:fO Tryz.prog 198 u v σ ks=bX v fun c=>aJ c 1 (iK u σ c ks):=bm zk
theorem H4 {P:Program} {t:TypeId}:aO P .shr t (.lit (.int .u32 a)) (.lit (.int .u64 1)) F=F true (.lit (.int .u32 (a/2))):=by rw[m6 zd];rfl
theorem U5 {P:Program} {t:TypeId}:aO P .and t (.lit (.int .u32 a)) (.lit (.int .u32 1)) F=F true (.lit (.int .u32 (a%2))):=dr 1 zd zd zd
theorem Qw (h:0≤a∧a≤4294967295):eS Tryz.prog 3 198 (.lit (.int i a)) σ F=F true (.lit (.int .u32 a)):=(eN zk).trans (HF zk zk h)
theorem R8:kY Tryz.prog 3 198 u σ kv=eS Tryz.prog 3 198 u σ fun τ u=>kv τ u σ:=gj zk
theorem aap:dJ Tryz.prog 274 σ kv=aC ((List.replicate 256 (.int .u32 0)):List Value) (bK σ (.cells (((List.replicate 256 (.int .u32 0)):List Value).map V.lit)) fun o σ'=>kv true (.ref o 0 0 0) σ'):=bL zk
theorem Sf:eS Tryz.prog 198 5 (.lit (.int i a)) σ F=F true (.lit (.int .u8 (IntKind.wrap .u8 a))):=(eN zk).trans (jL zk zk)
theorem Uu:kY Tryz.prog 198 5 u σ kv=eS Tryz.prog 198 5 u σ fun τ u=>kv τ u σ:=gj zk
theorem Ow {s:ByteArray} (h:0≤a∧a<s.size):pI Tryz.prog 9 (.lit (.string s)) (.lit (.int i a)) F=F true (.lit (.int .u8 (qL s a.toNat))):=Gb zk h
theorem ZR (h: -9223372036854775808≤a∧a≤9223372036854775807):eS Tryz.prog 5 3 (.lit (.int i a)) σ F=F true (.lit (.int .i64 a)):=(eN zk).trans (xn zk zk h)
theorem ady:kY Tryz.prog 5 3 u σ kv=eS Tryz.prog 5 3 u σ fun τ u=>kv τ u σ:=gj zk
theorem HM {P:Program} {t:TypeId}:aO P .shr t (.lit (.int .u32 a)) (.lit (.int .u64 8)) F=F true (.lit (.int .u32 (a/256))):=by rw[m6 zd];rfl
theorem pO {P:Program} {t:TypeId}:aO P .and t (.lit (.int .u64 a)) (.lit (.int .u64 2305843009213693951)) F=F true (.lit (.int .u64 (a%2305843009213693952))):=dr 61 zd zd zd
theorem Gg {P:Program} {t:TypeId}:aO P .shl t (.lit (.int .u64 a)) (.lit (.int .u64 3)) F=F true (.lit (.int .u64 (IntKind.wrap .u64 (a*8)))):=by rw[nU zd];rfl
theorem F7 {P:Program} {t:TypeId}:aO P .shr t (.lit (.int .u64 a)) (.lit (.int .u64 61)) F=F true (.lit (.int .u64 (a/2305843009213693952))):=by rw[fr zd];rfl
theorem SI:aK Tryz.prog 151 (.ref o z i' off) 0 F=F true (.ref o z i' off):=au (x:=0) (ag:=false) (m:=1) zk
theorem UC:aK Tryz.prog 151 (.ref o z i' off) 1 F=F true (.ref o z i' (off+1)):=au (x:=1) (ag:=false) (m:=1) zk
theorem adZ {ps:List (Nat×V)}:dI Tryz.prog 151 ps F=aC ([.int .i64 0,.int .i64 0]:List Value) (az (aE Tryz.prog 151) ps (([.int .i64 0,.int .i64 0]:List Value).map V.lit) fun l=>F true (.agg l)):=bE zk zk zk
theorem Sz {r:List (Nat×V)} {G:List V→Prop}:az (aE Tryz.prog 151) ((0,u)::r) us G=bX u fun c=>aJ c 1 (dp us 0 c fun l'=>az (aE Tryz.prog 151) r l' G):=av zk
theorem SW {r:List (Nat×V)} {G:List V→Prop}:az (aE Tryz.prog 151) ((1,u)::r) us G=bX u fun c=>aJ c 1 (dp us 1 c fun l'=>az (aE Tryz.prog 151) r l' G):=av zk
theorem adq:fO Tryz.prog 151 u v σ ks=bX v fun c=>aJ c 2 (iK u σ c ks):=bm zk
theorem Uk:aK Tryz.prog 161 (.ref o z i' off) 0 F=F true (.ref o z i' off):=au (x:=0) (ag:=true) (m:=3) zk
theorem RI:aK Tryz.prog 161 (.rref z l i' off) 0 F=F true (.rref z l i' off):=bu (x:=0) (ag:=true) (m:=3) zk
theorem aef:fe Tryz.prog 81 u σ F=fX u σ (some 3) F:=aS zk
theorem aal:dJ Tryz.prog 151 σ kv=aC ([.int .i64 0,.int .i64 0]:List Value) (bK σ (.cells (([.int .i64 0,.int .i64 0]:List Value).map V.lit)) fun o σ'=>kv true (.ref o 0 0 0) σ'):=bL zk
theorem aaH {ps:List (Nat×V)}:dI Tryz.prog 234 ps F=aC ([.slice none 0 0,.bool false,.slice none 0 0]:List Value) (az (aE Tryz.prog 234) ps (([.slice none 0 0,.bool false,.slice none 0 0]:List Value).map V.lit) fun l=>F true (.agg l)):=bE zk zk zk
theorem Rr {r:List (Nat×V)} {G:List V→Prop}:az (aE Tryz.prog 234) ((0,u)::r) us G=bX u fun c=>aJ c 2 (dp us 0 c fun l'=>az (aE Tryz.prog 234) r l' G):=av zk
theorem SA {r:List (Nat×V)} {G:List V→Prop}:az (aE Tryz.prog 234) ((1,u)::r) us G=bX u fun c=>aJ c 1 (dp us 2 c fun l'=>az (aE Tryz.prog 234) r l' G):=av zk
theorem SQ:aK Tryz.prog 134 (.ref o z i' off) 0 F=F true (.ref o z i' off):=au (x:=0) (ag:=false) (m:=1) zk
theorem Rw:aK Tryz.prog 131 (.ref o z i' off) 2 F=F true (.ref o z i' (off+2)):=au (x:=2) (ag:=false) (m:=1) zk
theorem ag4:fO Tryz.prog 4 u v σ ks=bX v fun c=>aJ c 1 (iK u σ c ks):=bm zk
theorem SU:aK Tryz.prog 134 (.ref o z i' off) 1 F=F true (.ref o z i' (off+1)):=au (x:=1) (ag:=false) (m:=1) zk
theorem UA:aK Tryz.prog 143 (.ref o z i' off) 0 F=F true (.ref o z i' off):=au (x:=0) (ag:=false) (m:=1) zk
theorem Si:aK Tryz.prog 143 (.ref o z i' off) 1 F=F true (.ref o z i' (off+1)):=au (x:=1) (ag:=false) (m:=1) zk
theorem UK:aK Tryz.prog 143 (.ref o z i' off) 2 F=F true (.ref o z i' (off+2)):=au (x:=2) (ag:=false) (m:=1) zk
theorem Zq {s:TypeId} {b:Value}:l7 Tryz.prog .eql 222 (.const .nilIface) (.lit (.iface s b)) (.lit .nilIface) F=F true (.lit (.bool false)):=Iz zk
theorem abT:fe Tryz.prog 143 u σ F=fX u σ (some 3) F:=aS zk
theorem UN:aK Tryz.prog 169 (.ref o z i' off) 0 F=F true (.ref o z i' off):=au (x:=0) (ag:=true) (m:=2) zk
theorem aaw:fe Tryz.prog 167 u σ F=fX u σ (some 2) F:=aS zk
theorem Zi {ps:List (Nat×V)}:gK Tryz.prog 90 1 ps σ kv=fp 2 0 ps fun l=>aJ l 1 (bK σ (.row 2 l) fun o σ'=>kv true (.sl o 2 0 1) σ'):=dm (et:=167) zk ⟨by kernel_rfl,by decide,by decide⟩
theorem SZ:mM Tryz.prog e 90 90 u v σ kv=gC v σ 2 fun m=>oc e 2 16 u m σ kv:=gI (et:=167) (ex:=167) (C:=[.int .u64 0,.int .u64 0]) zk zk zk zk zd rfl
theorem XY (h:m<len):cY Tryz.prog 163 (.sl o 3 off len) (.lit (.int i (m:Int))) F=F true (.ref o 3 (off+m) 0):=mY (et:=169) zk h
theorem UR (h:m<l.length):cY Tryz.prog 163 (.row 3 l) (.lit (.int i (m:Int))) F=F true (.rref 3 l m 0):=dE (et:=169) zk zd h
theorem adR:fe Tryz.prog 169 u σ F=fX u σ (some 3) F:=aS zk
theorem adF:dJ Tryz.prog 169 σ kv=aC ([.int .u64 0,.int .u64 0,.pointer none]:List Value) (bK σ (.cells (([.int .u64 0,.int .u64 0,.pointer none]:List Value).map V.lit)) fun o σ'=>kv true (.ref o 0 0 0) σ'):=bL zk
theorem ab5:fO Tryz.prog 169 u v σ ks=bX v fun c=>aJ c 3 (iK u σ c ks):=bm zk
theorem Ub:aK Tryz.prog 165 (.ref o z i' off) 1 F=F true (.ref o z i' (off+5)):=au (x:=5) (ag:=false) (m:=1) zk
theorem U0:aK Tryz.prog 165 (.rref z l i' off) 1 F=F true (.rref z l i' (off+5)):=bu (x:=5) (ag:=false) (m:=1) zk
theorem ab6:fe Tryz.prog 163 u σ F=fX u σ (none) F:=aS zk
theorem abz:eJ Tryz.prog e .len [163] [.row m l] σ kv=fB (.row m l) fun τ v=>kv τ v σ:=dY zk
theorem Zm:eJ Tryz.prog e .len [163] [.sl o m off len] σ kv=fB (.sl o m off len) fun τ v=>kv τ v σ:=lu zk
theorem Vh (h:m<l.length):cY Tryz.prog 90 (.row 2 l) (.lit (.int i (m:Int))) F=F true (.rref 2 l m 0):=dE (et:=167) zk zd h
theorem Z4 {vs:List V}:aO Tryz.prog .neq 167 (.agg us) (.agg vs) F=j9 [true,true] us vs fun r=>dF (zb .neq r) F:=gi zk
theorem afc:eJ Tryz.prog e .len [90] [.row m l] σ kv=fB (.row m l) fun τ v=>kv τ v σ:=dY zk
theorem OB {P:Program} {t:TypeId}:aO P .and t (.lit (.int .u64 a)) (.lit (.int .u64 127)) F=F true (.lit (.int .u64 (a%128))):=dr 7 zd zd zd
theorem adY:fe Tryz.prog 198 u σ F=fX u σ (none) F:=aS zk
theorem afV (h:0≤a∧a<len):cY Tryz.prog 47 (.sl o 1 off len) (.lit (.int i a)) F=F true (.ref o 1 (off+a.toNat) 0):=vw (et:=5) zk h
theorem abP (h:0≤a∧a<l.length):cY Tryz.prog 47 (.row 1 l) (.lit (.int i a)) F=F true (.rref 1 l a.toNat 0):=yf (et:=5) zk zd h
theorem Yu (h:m<l.length):cY Tryz.prog 47 (.row 1 l) (.lit (.int i (m:Int))) F=F true (.rref 1 l m 0):=dE (et:=5) zk zd h
theorem ada (h:0≤a∧a<L.length):cY Tryz.prog 47 (.row 1 (L.map f)) (.lit (.int i a)) F=F true (.rref 1 (L.map f) a.toNat 0):=lE (et:=5) zk zd h
theorem ahC:fe Tryz.prog 5 u σ F=fX u σ (none) F:=aS zk
theorem af4:eJ Tryz.prog e .len [47] [.row m l] σ kv=fB (.row m l) fun τ v=>kv τ v σ:=dY zk
theorem abx:eJ Tryz.prog e .len [47] [.sl o m off len] σ kv=fB (.sl o m off len) fun τ v=>kv τ v σ:=lu zk
theorem TE:aK Tryz.prog 195 (.ref o z i' off) 2 F=F true (.ref o z i' (off+2)):=au (x:=2) (ag:=false) (m:=1) zk
theorem RO:aK Tryz.prog 195 (.rref z l i' off) 2 F=F true (.rref z l i' (off+2)):=bu (x:=2) (ag:=false) (m:=1) zk
theorem ac5:fe Tryz.prog 134 u σ F=fX u σ (some 2) F:=aS zk
theorem agC:fe Tryz.prog 34 u σ F=fX u σ (some 3) F:=aS zk
theorem aaf {ps:List (Nat×V)}:dI Tryz.prog 195 ps F=aC ([.slice none 0 0,.int .i64 0,.int .i64 0]:List Value) (az (aE Tryz.prog 195) ps (([.slice none 0 0,.int .i64 0,.int .i64 0]:List Value).map V.lit) fun l=>F true (.agg l)):=bE zk zk zk
theorem Ur {r:List (Nat×V)} {G:List V→Prop}:az (aE Tryz.prog 195) ((0,u)::r) us G=bX u fun c=>aJ c 1 (dp us 0 c fun l'=>az (aE Tryz.prog 195) r l' G):=av zk
theorem SC {r:List (Nat×V)} {G:List V→Prop}:az (aE Tryz.prog 195) ((1,u)::r) us G=bX u fun c=>aJ c 1 (dp us 1 c fun l'=>az (aE Tryz.prog 195) r l' G):=av zk
theorem Uy {r:List (Nat×V)} {G:List V→Prop}:az (aE Tryz.prog 195) ((2,u)::r) us G=bX u fun c=>aJ c 1 (dp us 2 c fun l'=>az (aE Tryz.prog 195) r l' G):=av zk
theorem R4:aK Tryz.prog 128 (.ref o z i' off) 1 F=F true (.ref o z i' (off+2)):=au (x:=2) (ag:=false) (m:=1) zk
theorem aeM:fe Tryz.prog 30 u σ F=fX u σ (none) F:=aS zk
theorem SE:aK Tryz.prog 128 (.ref o z i' off) 0 F=F true (.ref o z i' off):=au (x:=0) (ag:=true) (m:=2) zk
theorem To:aK Tryz.prog 128 (.rref z l i' off) 0 F=F true (.rref z l i' off):=bu (x:=0) (ag:=true) (m:=2) zk
theorem Uv:aK Tryz.prog 126 (.ref o z i' off) 0 F=F true (.ref o z i' off):=au (x:=0) (ag:=false) (m:=1) zk
theorem Sp:aK Tryz.prog 126 (.rref z l i' off) 0 F=F true (.rref z l i' off):=bu (x:=0) (ag:=false) (m:=1) zk
theorem aaB (h:0≤a∧a<L.length):cY Tryz.prog 30 (.row 1 (L.map f)) (.lit (.int i a)) F=F true (.rref 1 (L.map f) a.toNat 0):=lE (et:=4) zk zd h
theorem SJ:aK Tryz.prog 126 (.ref o z i' off) 1 F=F true (.ref o z i' (off+1)):=au (x:=1) (ag:=false) (m:=1) zk
theorem aeu:eJ Tryz.prog e .len [30] [.row m l] σ kv=fB (.row m l) fun τ v=>kv τ v σ:=dY zk
theorem UX:aK Tryz.prog 167 (.ref o z i' off) 0 F=F true (.ref o z i' off):=au (x:=0) (ag:=false) (m:=1) zk
theorem T6:aK Tryz.prog 167 (.ref o z i' off) 1 F=F true (.ref o z i' (off+1)):=au (x:=1) (ag:=false) (m:=1) zk
theorem Uq:aK Tryz.prog 161 (.ref o z i' off) 1 F=F true (.ref o z i' (off+3)):=au (x:=3) (ag:=false) (m:=1) zk
theorem TR:aK Tryz.prog 161 (.rref z l i' off) 1 F=F true (.rref z l i' (off+3)):=bu (x:=3) (ag:=false) (m:=1) zk
theorem abH:fe Tryz.prog 159 u σ F=fX u σ (none) F:=aS zk
theorem ad2:fe Tryz.prog 151 u σ F=fX u σ (some 2) F:=aS zk
theorem WK (h:m<len):cY Tryz.prog 159 (.sl o 2 off len) (.lit (.int i (m:Int))) F=F true (.ref o 2 (off+m) 0):=mY (et:=151) zk h
theorem RQ (h:m<l.length):cY Tryz.prog 159 (.row 2 l) (.lit (.int i (m:Int))) F=F true (.rref 2 l m 0):=dE (et:=151) zk zd h
theorem Ti:aK Tryz.prog 161 (.ref o z i' off) 2 F=F true (.ref o z i' (off+4)):=au (x:=4) (ag:=false) (m:=1) zk
theorem Rx:aK Tryz.prog 161 (.rref z l i' off) 2 F=F true (.rref z l i' (off+4)):=bu (x:=4) (ag:=false) (m:=1) zk
theorem abQ:eJ Tryz.prog e .len [159] [.row m l] σ kv=fB (.row m l) fun τ v=>kv τ v σ:=dY zk
theorem Wk:eJ Tryz.prog e .len [159] [.sl o m off len] σ kv=fB (.sl o m off len) fun τ v=>kv τ v σ:=lu zk
theorem ZN:aK Tryz.prog 81 (.ref o z i' off) 0 F=F true (.ref o z i' off):=au (x:=0) (ag:=false) (m:=1) zk
theorem Vf:aK Tryz.prog 81 (.rref z l i' off) 0 F=F true (.rref z l i' off):=bu (x:=0) (ag:=false) (m:=1) zk
theorem ZT:aK Tryz.prog 81 (.ref o z i' off) 1 F=F true (.ref o z i' (off+1)):=au (x:=1) (ag:=false) (m:=1) zk
theorem ZW:aK Tryz.prog 81 (.rref z l i' off) 1 F=F true (.rref z l i' (off+1)):=bu (x:=1) (ag:=false) (m:=1) zk
theorem Zs {ps:List (Nat×V)}:gK Tryz.prog 27 0 ps σ kv=fp 1 0 ps fun l=>aJ l 0 (bK σ (.row 1 l) fun o σ'=>kv true (.sl o 1 0 0) σ'):=dm (et:=67) zk ⟨by kernel_rfl,by decide,by decide⟩
theorem T7:mM Tryz.prog e 27 27 u v σ kv=gC v σ 1 fun m=>oc e 1 8 u m σ kv:=gI (et:=67) (ex:=67) (C:=[.int .u64 0]) zk zk zk zk zd rfl
theorem aag:aO Tryz.prog .eql 27 (.row 1 l) (.lit (.slice none 0 0)) F=om .eql l.isEmpty F:=jo ⟨by kernel_rfl,by decide⟩
theorem TU {r:List (Nat×V)} {G:List V→Prop}:az (aE Tryz.prog 157) ((0,u)::r) us G=bX u fun c=>aJ c 1 (dp us 0 c fun l'=>az (aE Tryz.prog 157) r l' G):=av zk
theorem R3 {r:List (Nat×V)} {G:List V→Prop}:az (aE Tryz.prog 232) ((0,u)::r) us G=bX u fun c=>aJ c 1 (dp us 0 c fun l'=>az (aE Tryz.prog 232) r l' G):=av zk
theorem RE {r:List (Nat×V)} {G:List V→Prop}:az (aE Tryz.prog 232) ((1,u)::r) us G=bX u fun c=>aJ c 1 (dp us 1 c fun l'=>az (aE Tryz.prog 232) r l' G):=av zk
theorem UG:aK Tryz.prog 195 (.ref o z i' off) 0 F=F true (.ref o z i' off):=au (x:=0) (ag:=false) (m:=1) zk
theorem TT:aK Tryz.prog 195 (.rref z l i' off) 0 F=F true (.rref z l i' off):=bu (x:=0) (ag:=false) (m:=1) zk
theorem Sy:aK Tryz.prog 195 (.ref o z i' off) 1 F=F true (.ref o z i' (off+1)):=au (x:=1) (ag:=false) (m:=1) zk
theorem Ro:aK Tryz.prog 195 (.rref z l i' off) 1 F=F true (.rref z l i' (off+1)):=bu (x:=1) (ag:=false) (m:=1) zk
theorem aaV:fe Tryz.prog 222 u σ F=fX u σ (none) F:=aS zk
theorem agU:fe Tryz.prog 61 u σ F=fX u σ (none) F:=aS zk
theorem aax:fe Tryz.prog 140 u σ F=fX u σ (some 2) F:=aS zk
theorem aa6:fO Tryz.prog 140 u v σ ks=bX v fun c=>aJ c 2 (iK u σ c ks):=bm zk
theorem TI:aK Tryz.prog 140 (.ref o z i' off) 0 F=F true (.ref o z i' off):=au (x:=0) (ag:=false) (m:=1) zk
theorem Ua:aK Tryz.prog 140 (.ref o z i' off) 1 F=F true (.ref o z i' (off+1)):=au (x:=1) (ag:=false) (m:=1) zk
theorem abj:dJ Tryz.prog 140 σ kv=aC ([.int .i64 0,.bool false]:List Value) (bK σ (.cells (([.int .i64 0,.bool false]:List Value).map V.lit)) fun o σ'=>kv true (.ref o 0 0 0) σ'):=bL zk
theorem aaF:vh Tryz.prog 259 (.lit (.int i a)) F=F true (.lit (.iface 259 (.int i a))):=vx (k:=Go.IntKind.i64) zk
theorem OM:pG Tryz.prog e (.lit (.iface 259 (.int i a))) "tallymark/chain.good" us σ kv=dB Tryz.prog e 251 (.lit (.int i a)::us) σ kv:=lF zk
theorem N6:pG Tryz.prog e (.lit (.iface 259 (.int i a))) "tallymark/chain.step" us σ kv=dB Tryz.prog e 253 (.lit (.int i a)::us) σ kv:=lF zk
theorem aaK:vh Tryz.prog 258 (.lit (.int i a)) F=F true (.lit (.iface 258 (.int i a))):=vx (k:=Go.IntKind.i64) zk
theorem NT:pG Tryz.prog e (.lit (.iface 258 (.int i a))) "tallymark/chain.good" us σ kv=dB Tryz.prog e 241 (.lit (.int i a)::us) σ kv:=lF zk
theorem Nt:pG Tryz.prog e (.lit (.iface 258 (.int i a))) "tallymark/chain.step" us σ kv=dB Tryz.prog e 243 (.lit (.int i a)::us) σ kv:=lF zk
theorem abb:vh Tryz.prog 257 (.lit (.int i a)) F=F true (.lit (.iface 257 (.int i a))):=vx (k:=Go.IntKind.i64) zk
theorem Og:pG Tryz.prog e (.lit (.iface 257 (.int i a))) "tallymark/chain.good" us σ kv=dB Tryz.prog e 230 (.lit (.int i a)::us) σ kv:=lF zk
theorem O4:pG Tryz.prog e (.lit (.iface 257 (.int i a))) "tallymark/chain.step" us σ kv=dB Tryz.prog e 232 (.lit (.int i a)::us) σ kv:=lF zk
theorem Sj (h:m<l.length):cY Tryz.prog 256 (.row 3 l) (.lit (.int i (m:Int))) F=F true (.rref 3 l m 0):=dE (et:=131) zk zd h
theorem abn:eJ Tryz.prog e .len [256] [.row m l] σ kv=fB (.row m l) fun τ v=>kv τ v σ:=dY zk
theorem Wg:aK Tryz.prog 34 (.ref o z i' off) 0 F=F true (.ref o z i' off):=au (x:=0) (ag:=false) (m:=1) zk
theorem ado (h:0≤a∧a<len):cY Tryz.prog 171 (.sl o 2 off len) (.lit (.int i a)) F=F true (.ref o 2 (off+a.toNat) 0):=vw (et:=176) zk h
theorem Xr (h:m<len):cY Tryz.prog 171 (.sl o 2 off len) (.lit (.int i (m:Int))) F=F true (.ref o 2 (off+m) 0):=mY (et:=176) zk h
theorem Tw (h:m<l.length):cY Tryz.prog 171 (.row 2 l) (.lit (.int i (m:Int))) F=F true (.rref 2 l m 0):=dE (et:=176) zk zd h
theorem aaR:fe Tryz.prog 176 u σ F=fX u σ (some 2) F:=aS zk
theorem Vu {vs:List V}:aO Tryz.prog .neq 176 (.agg us) (.agg vs) F=j9 [true,true] us vs fun r=>dF (zb .neq r) F:=gi zk
theorem aci:eJ Tryz.prog e .len [171] [.row m l] σ kv=fB (.row m l) fun τ v=>kv τ v σ:=dY zk
theorem Ye:eJ Tryz.prog e .len [171] [.sl o m off len] σ kv=fB (.sl o m off len) fun τ v=>kv τ v σ:=lu zk
theorem Th:aK Tryz.prog 165 (.ref o z i' off) 0 F=F true (.ref o z i' off):=au (x:=0) (ag:=true) (m:=5) zk
theorem TQ:aK Tryz.prog 165 (.rref z l i' off) 0 F=F true (.rref z l i' off):=bu (x:=0) (ag:=true) (m:=5) zk
theorem ae4:fe Tryz.prog 88 u σ F=fX u σ (some 5) F:=aS zk
theorem acE {vs:List V}:aO Tryz.prog .eql 88 (.agg us) (.agg vs) F=j9 [true,true,true,true,true] us vs fun r=>dF (zb .eql r) F:=gi zk
theorem Sg:aK Tryz.prog 169 (.ref o z i' off) 1 F=F true (.ref o z i' (off+2)):=au (x:=2) (ag:=false) (m:=1) zk
theorem afe:fe Tryz.prog 37 u σ F=fX u σ (none) F:=aS zk
theorem Yf {vs:List V}:aO Tryz.prog .neq 151 (.agg us) (.agg vs) F=j9 [true,true] us vs fun r=>dF (zb .neq r) F:=gi zk
theorem Uj {ps:List (Nat×V)}:gK Tryz.prog 171 0 ps σ kv=fp 2 0 ps fun l=>aJ l 0 (bK σ (.row 2 l) fun o σ'=>kv true (.sl o 2 0 0) σ'):=dm (et:=176) zk ⟨by kernel_rfl,by decide,by decide⟩
theorem Oz:mM Tryz.prog e 171 171 u v σ kv=gC v σ 2 fun m=>oc e 2 16 u m σ kv:=gI (et:=176) (ex:=176) (C:=[.int .u64 0,.int .i64 0]) zk zk zk zk zd rfl
theorem VF:aO Tryz.prog .eql 171 (.row 2 l) (.lit (.slice none 0 0)) F=om .eql l.isEmpty F:=jo ⟨by kernel_rfl,by decide⟩
theorem S3 {ps:List (Nat×V)}:gK Tryz.prog 163 0 ps σ kv=fp 3 0 ps fun l=>aJ l 0 (bK σ (.row 3 l) fun o σ'=>kv true (.sl o 3 0 0) σ'):=dm (et:=169) zk ⟨by kernel_rfl,by decide,by decide⟩
theorem Ov:mM Tryz.prog e 163 163 u v σ kv=gC v σ 3 fun m=>oc e 3 24 u m σ kv:=gI (et:=169) (ex:=169) (C:=[.int .u64 0,.int .u64 0,.pointer none]) zk zk zk zk zd rfl
theorem Xs:aO Tryz.prog .eql 163 (.row 3 l) (.lit (.slice none 0 0)) F=om .eql l.isEmpty F:=jo ⟨by kernel_rfl,by decide⟩
theorem Sn {ps:List (Nat×V)}:gK Tryz.prog 159 0 ps σ kv=fp 2 0 ps fun l=>aJ l 0 (bK σ (.row 2 l) fun o σ'=>kv true (.sl o 2 0 0) σ'):=dm (et:=151) zk ⟨by kernel_rfl,by decide,by decide⟩
theorem OS:mM Tryz.prog e 159 159 u v σ kv=gC v σ 2 fun m=>oc e 2 16 u m σ kv:=gI (et:=151) (ex:=151) (C:=[.int .i64 0,.int .i64 0]) zk zk zk zk zd rfl
theorem Xo:aO Tryz.prog .eql 159 (.row 2 l) (.lit (.slice none 0 0)) F=om .eql l.isEmpty F:=jo ⟨by kernel_rfl,by decide⟩
theorem Td:aK Tryz.prog 173 (.ref o z i' off) 1 F=F true (.ref o z i' (off+3)):=au (x:=3) (ag:=false) (m:=1) zk
theorem Tm:aK Tryz.prog 173 (.rref z l i' off) 1 F=F true (.rref z l i' (off+3)):=bu (x:=3) (ag:=false) (m:=1) zk
theorem aaE:fe Tryz.prog 171 u σ F=fX u σ (none) F:=aS zk
theorem abu {ps:List (Nat×V)}:dI Tryz.prog 176 ps F=aC ([.int .u64 0,.int .i64 0]:List Value) (az (aE Tryz.prog 176) ps (([.int .u64 0,.int .i64 0]:List Value).map V.lit) fun l=>F true (.agg l)):=bE zk zk zk
theorem Sa {r:List (Nat×V)} {G:List V→Prop}:az (aE Tryz.prog 176) ((0,u)::r) us G=bX u fun c=>aJ c 1 (dp us 0 c fun l'=>az (aE Tryz.prog 176) r l' G):=av zk
theorem RG {r:List (Nat×V)} {G:List V→Prop}:az (aE Tryz.prog 176) ((1,u)::r) us G=bX u fun c=>aJ c 1 (dp us 1 c fun l'=>az (aE Tryz.prog 176) r l' G):=av zk
theorem adp:fO Tryz.prog 176 u v σ ks=bX v fun c=>aJ c 2 (iK u σ c ks):=bm zk
theorem RD:aK Tryz.prog 173 (.ref o z i' off) 2 F=F true (.ref o z i' (off+4)):=au (x:=4) (ag:=false) (m:=1) zk
theorem TD:aK Tryz.prog 173 (.rref z l i' off) 2 F=F true (.rref z l i' (off+4)):=bu (x:=4) (ag:=false) (m:=1) zk
theorem afA:fe Tryz.prog 93 u σ F=fX u σ (some 3) F:=aS zk
theorem adm {ps:List (Nat×V)}:dI Tryz.prog 169 ps F=aC ([.int .u64 0,.int .u64 0,.pointer none]:List Value) (az (aE Tryz.prog 169) ps (([.int .u64 0,.int .u64 0,.pointer none]:List Value).map V.lit) fun l=>F true (.agg l)):=bE zk zk zk
theorem Tc {r:List (Nat×V)} {G:List V→Prop}:az (aE Tryz.prog 169) ((0,u)::r) us G=bX u fun c=>aJ c 2 (dp us 0 c fun l'=>az (aE Tryz.prog 169) r l' G):=av zk
theorem Tu {r:List (Nat×V)} {G:List V→Prop}:az (aE Tryz.prog 169) ((1,u)::r) us G=bX u fun c=>aJ c 1 (dp us 2 c fun l'=>az (aE Tryz.prog 169) r l' G):=av zk
theorem Rz {ps:List (Nat×V)}:gK Tryz.prog 163 1 ps σ kv=fp 3 0 ps fun l=>aJ l 1 (bK σ (.row 3 l) fun o σ'=>kv true (.sl o 3 0 1) σ'):=dm (et:=169) zk ⟨by kernel_rfl,by decide,by decide⟩
theorem ab9:fO Tryz.prog 163 u v σ ks=bX v fun c=>aJ c 1 (iK u σ c ks):=bm zk
theorem Zr:aK Tryz.prog 88 (.ref o z i' off) 2 F=F true (.ref o z i' (off+2)):=au (x:=2) (ag:=true) (m:=3) zk
theorem WT:aK Tryz.prog 88 (.ref o z i' off) 1 F=F true (.ref o z i' (off+1)):=au (x:=1) (ag:=false) (m:=1) zk
theorem WI (h:m<2) (hl:us.length=2):pI Tryz.prog 253 (.agg us) (.lit (.int i (m:Int))) F=mh us m fun x=>F true x:=Pw (et:=252) zk zk hl h
theorem acH {ps:List (Nat×V)}:dI Tryz.prog 253 ps F=aC ([.pointer none,.pointer none]:List Value) (az (aE Tryz.prog 253) ps (([.pointer none,.pointer none]:List Value).map V.lit) fun l=>F true (.agg l)):=bE zk zk zk
theorem TB {r:List (Nat×V)} {G:List V→Prop}:az (aE Tryz.prog 253) ((0,u)::r) us G=bX u fun c=>aJ c 1 (dp us 0 c fun l'=>az (aE Tryz.prog 253) r l' G):=av zk
theorem UW {r:List (Nat×V)} {G:List V→Prop}:az (aE Tryz.prog 253) ((1,u)::r) us G=bX u fun c=>aJ c 1 (dp us 1 c fun l'=>az (aE Tryz.prog 253) r l' G):=av zk
theorem acM:dJ Tryz.prog 167 σ kv=aC ([.int .u64 0,.int .u64 0]:List Value) (bK σ (.cells (([.int .u64 0,.int .u64 0]:List Value).map V.lit)) fun o σ'=>kv true (.ref o 0 0 0) σ'):=bL zk
theorem ZC:aK Tryz.prog 88 (.ref o z i' off) 0 F=F true (.ref o z i' off):=au (x:=0) (ag:=false) (m:=1) zk
theorem aba {ps:List (Nat×V)}:dI Tryz.prog 165 ps F=aC ([.int .i64 0,.int .i64 0,.int .i64 0,.int .i64 0,.int .i64 0,.slice none 0 0,.int .i64 0]:List Value) (az (aE Tryz.prog 165) ps (([.int .i64 0,.int .i64 0,.int .i64 0,.int .i64 0,.int .i64 0,.slice none 0 0,.int .i64 0]:List Value).map V.lit) fun l=>F true (.agg l)):=bE zk zk zk
theorem SH {r:List (Nat×V)} {G:List V→Prop}:az (aE Tryz.prog 165) ((0,u)::r) us G=bX u fun c=>aJ c 5 (dp us 0 c fun l'=>az (aE Tryz.prog 165) r l' G):=av zk
theorem Tn {r:List (Nat×V)} {G:List V→Prop}:az (aE Tryz.prog 165) ((2,u)::r) us G=bX u fun c=>aJ c 1 (dp us 6 c fun l'=>az (aE Tryz.prog 165) r l' G):=av zk
theorem YK:aK Tryz.prog 81 (.ref o z i' off) 2 F=F true (.ref o z i' (off+2)):=au (x:=2) (ag:=false) (m:=1) zk
theorem U1:aK Tryz.prog 161 (.ref o z i' off) 3 F=F true (.ref o z i' (off+5)):=au (x:=5) (ag:=false) (m:=1) zk
theorem Uo:aK Tryz.prog 161 (.rref z l i' off) 3 F=F true (.rref z l i' (off+5)):=bu (x:=5) (ag:=false) (m:=1) zk
theorem TC:aK Tryz.prog 112 (.ref o z i' off) 1 F=F true (.ref o z i' (off+1)):=au (x:=1) (ag:=false) (m:=1) zk
theorem afM:fO Tryz.prog 45 u v σ ks=bX v fun c=>aJ c 1 (iK u σ c ks):=bm zk
theorem Ug:aK Tryz.prog 112 (.ref o z i' off) 0 F=F true (.ref o z i' off):=au (x:=0) (ag:=false) (m:=1) zk
theorem aaQ:fe Tryz.prog 109 u σ F=fX u σ (none) F:=aS zk
theorem af9:fe Tryz.prog 45 u σ F=fX u σ (none) F:=aS zk
theorem aet:fe Tryz.prog 36 u σ F=fX u σ (some 3) F:=aS zk
theorem afh:dJ Tryz.prog 36 σ kv=aC ([.int .i64 0,.int .i64 0,.bool false]:List Value) (bK σ (.cells (([.int .i64 0,.int .i64 0,.bool false]:List Value).map V.lit)) fun o σ'=>kv true (.ref o 0 0 0) σ'):=bL zk
theorem agz:fO Tryz.prog 36 u v σ ks=bX v fun c=>aJ c 3 (iK u σ c ks):=bm zk
theorem agS {ps:List (Nat×V)}:dI Tryz.prog 36 ps F=aC ([.int .i64 0,.int .i64 0,.bool false]:List Value) (az (aE Tryz.prog 36) ps (([.int .i64 0,.int .i64 0,.bool false]:List Value).map V.lit) fun l=>F true (.agg l)):=bE zk zk zk
theorem Xu {r:List (Nat×V)} {G:List V→Prop}:az (aE Tryz.prog 36) ((0,u)::r) us G=bX u fun c=>aJ c 1 (dp us 0 c fun l'=>az (aE Tryz.prog 36) r l' G):=av zk
theorem W8 {r:List (Nat×V)} {G:List V→Prop}:az (aE Tryz.prog 36) ((1,u)::r) us G=bX u fun c=>aJ c 1 (dp us 1 c fun l'=>az (aE Tryz.prog 36) r l' G):=av zk
theorem Xp {r:List (Nat×V)} {G:List V→Prop}:az (aE Tryz.prog 36) ((2,u)::r) us G=bX u fun c=>aJ c 1 (dp us 2 c fun l'=>az (aE Tryz.prog 36) r l' G):=av zk
theorem agZ {ps:List (Nat×V)}:dI Tryz.prog 34 ps F=aC ([.int .i64 0,.int .i64 0,.int .i64 0]:List Value) (az (aE Tryz.prog 34) ps (([.int .i64 0,.int .i64 0,.int .i64 0]:List Value).map V.lit) fun l=>F true (.agg l)):=bE zk zk zk
theorem Za {r:List (Nat×V)} {G:List V→Prop}:az (aE Tryz.prog 34) ((0,u)::r) us G=bX u fun c=>aJ c 1 (dp us 0 c fun l'=>az (aE Tryz.prog 34) r l' G):=av zk
theorem YO {r:List (Nat×V)} {G:List V→Prop}:az (aE Tryz.prog 34) ((1,u)::r) us G=bX u fun c=>aJ c 1 (dp us 1 c fun l'=>az (aE Tryz.prog 34) r l' G):=av zk
theorem YZ {r:List (Nat×V)} {G:List V→Prop}:az (aE Tryz.prog 34) ((2,u)::r) us G=bX u fun c=>aJ c 1 (dp us 2 c fun l'=>az (aE Tryz.prog 34) r l' G):=av zk
theorem agi:fO Tryz.prog 34 u v σ ks=bX v fun c=>aJ c 3 (iK u σ c ks):=bm zk
theorem afu:dJ Tryz.prog 34 σ kv=aC ([.int .i64 0,.int .i64 0,.int .i64 0]:List Value) (bK σ (.cells (([.int .i64 0,.int .i64 0,.int .i64 0]:List Value).map V.lit)) fun o σ'=>kv true (.ref o 0 0 0) σ'):=bL zk
theorem UY (h:0≤a∧a≤18446744073709551615):eS Tryz.prog 5 67 (.lit (.int i a)) σ F=F true (.lit (.int .u64 a)):=(eN zk).trans (kC zk zk h)
theorem Yl:kY Tryz.prog 5 67 u σ kv=eS Tryz.prog 5 67 u σ fun τ u=>kv τ u σ:=gj zk
theorem Tr:aK Tryz.prog 201 (.ref o z i' off) 1 F=F true (.ref o z i' (off+1)):=au (x:=1) (ag:=false) (m:=1) zk
theorem S9:aK Tryz.prog 201 (.rref z l i' off) 1 F=F true (.rref z l i' (off+1)):=bu (x:=1) (ag:=false) (m:=1) zk
theorem TL:aK Tryz.prog 201 (.ref o z i' off) 0 F=F true (.ref o z i' off):=au (x:=0) (ag:=false) (m:=1) zk
theorem Ru:aK Tryz.prog 201 (.rref z l i' off) 0 F=F true (.rref z l i' off):=bu (x:=0) (ag:=false) (m:=1) zk
theorem afp:fe Tryz.prog 47 u σ F=fX u σ (none) F:=aS zk
theorem Xn {P:Program} {t:TypeId}:aO P .and t (.lit (.int .u8 a)) (.lit (.int .u8 1)) F=F true (.lit (.int .u8 (a%2))):=dr 1 zd zd zd
theorem Vq {ps:List (Nat×V)}:gK Tryz.prog 47 0 ps σ kv=fp 1 0 ps fun l=>aJ l 0 (bK σ (.row 1 l) fun o σ'=>kv true (.sl o 1 0 0) σ'):=dm (et:=5) zk ⟨by kernel_rfl,by decide,by decide⟩
theorem TM:mM Tryz.prog e 47 47 u v σ kv=gC v σ 1 fun m=>oc e 1 1 u m σ kv:=gI (et:=5) (ex:=5) (C:=[.int .u8 0]) zk zk zk zk zd rfl
theorem acF:aO Tryz.prog .eql 47 (.row 1 l) (.lit (.slice none 0 0)) F=om .eql l.isEmpty F:=jo ⟨by kernel_rfl,by decide⟩
theorem Jk {P:Program} {t:TypeId}:aO P .shr t (.lit (.int .u64 a)) (.lit (.int .u64 7)) F=F true (.lit (.int .u64 (a/128))):=by rw[fr zd];rfl
theorem Xh:aK Tryz.prog 34 (.ref o z i' off) 2 F=F true (.ref o z i' (off+2)):=au (x:=2) (ag:=false) (m:=1) zk
theorem Yd:aK Tryz.prog 34 (.ref o z i' off) 1 F=F true (.ref o z i' (off+1)):=au (x:=1) (ag:=false) (m:=1) zk
theorem RF (h:0≤a∧a≤255):eS Tryz.prog 67 5 (.lit (.int i a)) σ F=F true (.lit (.int .u8 a)):=(eN zk).trans (KN zk zk h)
theorem Xa:kY Tryz.prog 67 5 u σ kv=eS Tryz.prog 67 5 u σ fun τ u=>kv τ u σ:=gj zk
theorem Jc {P:Program} {t:TypeId}:aO P .shr t (.lit (.int .u64 a)) (.lit (.int .u64 8)) F=F true (.lit (.int .u64 (a/256))):=by rw[fr zd];rfl
theorem F3 {P:Program} {t:TypeId}:aO P .shr t (.lit (.int .u64 a)) (.lit (.int .u64 16)) F=F true (.lit (.int .u64 (a/65536))):=by rw[fr zd];rfl
theorem T5:aK Tryz.prog 173 (.rref z l i' off) 0 F=F true (.rref z l i' off):=bu (x:=0) (ag:=true) (m:=3) zk
theorem ae0:fO Tryz.prog 93 u v σ ks=bX v fun c=>aJ c 3 (iK u σ c ks):=bm zk
theorem agP:dJ Tryz.prog 93 σ kv=aC ([.int .i64 0,.int .i64 0,.int .i64 0]:List Value) (bK σ (.cells (([.int .i64 0,.int .i64 0,.int .i64 0]:List Value).map V.lit)) fun o σ'=>kv true (.ref o 0 0 0) σ'):=bL zk
theorem aec:fO Tryz.prog 88 u v σ ks=bX v fun c=>aJ c 5 (iK u σ c ks):=bm zk
theorem aeA:dJ Tryz.prog 88 σ kv=aC ([.int .i64 0,.int .i64 0,.int .i64 0,.int .i64 0,.int .i64 0]:List Value) (bK σ (.cells (([.int .i64 0,.int .i64 0,.int .i64 0,.int .i64 0,.int .i64 0]:List Value).map V.lit)) fun o σ'=>kv true (.ref o 0 0 0) σ'):=bL zk
theorem afn:fO Tryz.prog 81 u v σ ks=bX v fun c=>aJ c 3 (iK u σ c ks):=bm zk
theorem ad8:dJ Tryz.prog 81 σ kv=aC ([.int .i64 0,.int .i64 0,.int .i64 0]:List Value) (bK σ (.cells (([.int .i64 0,.int .i64 0,.int .i64 0]:List Value).map V.lit)) fun o σ'=>kv true (.ref o 0 0 0) σ'):=bL zk
theorem YB:aK Tryz.prog 58 (.ref o z i' off) 1 F=F true (.ref o z i' (off+1)):=au (x:=1) (ag:=true) (m:=3) zk
theorem VX:aK Tryz.prog 58 (.rref z l i' off) 1 F=F true (.rref z l i' (off+1)):=bu (x:=1) (ag:=true) (m:=3) zk
theorem Se {ps:List (Nat×V)}:gK Tryz.prog 100 3 ps σ kv=fp 1 0 ps fun l=>aJ l 3 (bK σ (.row 1 l) fun o σ'=>kv true (.sl o 1 0 3) σ'):=dm (et:=3) zk ⟨by kernel_rfl,by decide,by decide⟩
theorem W9:aK Tryz.prog 98 (.ref o z i' off) 1 F=F true (.ref o z i' (off+1)):=au (x:=1) (ag:=false) (m:=1) zk
theorem Vj:aK Tryz.prog 98 (.ref o z i' off) 0 F=F true (.ref o z i' off):=au (x:=0) (ag:=false) (m:=1) zk
theorem ZF:aK Tryz.prog 98 (.rref z l i' off) 0 F=F true (.rref z l i' off):=bu (x:=0) (ag:=false) (m:=1) zk
theorem ain:fO Tryz.prog 5 u v σ ks=bX v fun c=>aJ c 1 (iK u σ c ks):=bm zk
theorem XD {ps:List (Nat×V)}:gK Tryz.prog 47 1 ps σ kv=fp 1 0 ps fun l=>aJ l 1 (bK σ (.row 1 l) fun o σ'=>kv true (.sl o 1 0 1) σ'):=dm (et:=5) zk ⟨by kernel_rfl,by decide,by decide⟩
theorem agx:fO Tryz.prog 47 u v σ ks=bX v fun c=>aJ c 1 (iK u σ c ks):=bm zk
theorem Yx:aK Tryz.prog 36 (.ref o z i' off) 1 F=F true (.ref o z i' (off+1)):=au (x:=1) (ag:=false) (m:=1) zk
theorem YY:aK Tryz.prog 36 (.ref o z i' off) 0 F=F true (.ref o z i' off):=au (x:=0) (ag:=false) (m:=1) zk
theorem XZ:aK Tryz.prog 36 (.ref o z i' off) 2 F=F true (.ref o z i' (off+2)):=au (x:=2) (ag:=false) (m:=1) zk
theorem Zz:aK Tryz.prog 93 (.ref o z i' off) 2 F=F true (.ref o z i' (off+2)):=au (x:=2) (ag:=false) (m:=1) zk
theorem YV:aK Tryz.prog 93 (.ref o z i' off) 0 F=F true (.ref o z i' off):=au (x:=0) (ag:=false) (m:=1) zk
theorem Z3:aK Tryz.prog 93 (.ref o z i' off) 1 F=F true (.ref o z i' (off+1)):=au (x:=1) (ag:=false) (m:=1) zk
theorem Ws:aK Tryz.prog 29 (.ref o z i' off) 3 F=F true (.ref o z i' (off+5)):=au (x:=5) (ag:=false) (m:=1) zk
theorem ae7 {ps:List (Nat×V)}:dI Tryz.prog 58 ps F=aC ([.pointer none,.int .i64 0,.int .i64 0,.int .i64 0]:List Value) (az (aE Tryz.prog 58) ps (([.pointer none,.int .i64 0,.int .i64 0,.int .i64 0]:List Value).map V.lit) fun l=>F true (.agg l)):=bE zk zk zk
theorem V4 {r:List (Nat×V)} {G:List V→Prop}:az (aE Tryz.prog 58) ((0,u)::r) us G=bX u fun c=>aJ c 1 (dp us 0 c fun l'=>az (aE Tryz.prog 58) r l' G):=av zk
theorem XX {r:List (Nat×V)} {G:List V→Prop}:az (aE Tryz.prog 58) ((1,u)::r) us G=bX u fun c=>aJ c 3 (dp us 1 c fun l'=>az (aE Tryz.prog 58) r l' G):=av zk
theorem agK:fe Tryz.prog 71 u σ F=fX u σ (some 3) F:=aS zk
theorem afi:fO Tryz.prog 71 u v σ ks=bX v fun c=>aJ c 3 (iK u σ c ks):=bm zk
theorem ZD:aK Tryz.prog 71 (.ref o z i' off) 2 F=F true (.ref o z i' (off+2)):=au (x:=2) (ag:=false) (m:=1) zk
theorem YI:aK Tryz.prog 71 (.ref o z i' off) 0 F=F true (.ref o z i' off):=au (x:=0) (ag:=false) (m:=1) zk
theorem Ql {P:Program} {t:TypeId}:aO P .and t (.lit (.int .i64 a)) (.lit (.int .i64 15)) F=F true (.lit (.int .i64 (a%16))):=dr 4 zd zd zd
theorem V9:aK Tryz.prog 71 (.ref o z i' off) 1 F=F true (.ref o z i' (off+1)):=au (x:=1) (ag:=false) (m:=1) zk
theorem WX:aK Tryz.prog 23 (.ref o z i' off) 2 F=F true (.ref o z i' (off+2)):=au (x:=2) (ag:=false) (m:=1) zk
theorem So {P:Program} {t:TypeId}:aO P .and t (.lit (.int .i64 a)) (.lit (.int .i64 7)) F=F true (.lit (.int .i64 (a%8))):=dr 3 zd zd zd
theorem YS:aK Tryz.prog 23 (.ref o z i' off) 1 F=F true (.ref o z i' (off+1)):=au (x:=1) (ag:=false) (m:=1) zk
theorem UT {P:Program} {t:TypeId}:aO P .and t (.lit (.int .i64 a)) (.lit (.int .i64 3)) F=F true (.lit (.int .i64 (a%4))):=dr 2 zd zd zd
theorem Yc:aK Tryz.prog 23 (.ref o z i' off) 0 F=F true (.ref o z i' off):=au (x:=0) (ag:=false) (m:=1) zk
theorem afg:dJ Tryz.prog 71 σ kv=aC ([.int .i64 0,.int .i64 0,.bool false]:List Value) (bK σ (.cells (([.int .i64 0,.int .i64 0,.bool false]:List Value).map V.lit)) fun o σ'=>kv true (.ref o 0 0 0) σ'):=bL zk
theorem H6 {P:Program} {t:TypeId}:aO P .shl t (.lit (.int .u64 a)) (.lit (.int .u64 1)) F=F true (.lit (.int .u64 (IntKind.wrap .u64 (a*2)))):=by rw[nU zd];rfl
theorem Yw:aK Tryz.prog 58 (.ref o z i' off) 0 F=F true (.ref o z i' off):=au (x:=0) (ag:=false) (m:=1) zk
theorem Wc:aK Tryz.prog 58 (.rref z l i' off) 0 F=F true (.rref z l i' off):=bu (x:=0) (ag:=false) (m:=1) zk
theorem aeY:fe Tryz.prog 56 u σ F=fX u σ (none) F:=aS zk
theorem ae3:dJ Tryz.prog 98 σ kv=aC ([.slice none 0 0,.int .i64 0]:List Value) (bK σ (.cells (([.slice none 0 0,.int .i64 0]:List Value).map V.lit)) fun o σ'=>kv true (.ref o 0 0 0) σ'):=bL zk
theorem adE {ps:List (Nat×V)}:dI Tryz.prog 140 ps F=aC ([.int .i64 0,.bool false]:List Value) (az (aE Tryz.prog 140) ps (([.int .i64 0,.bool false]:List Value).map V.lit) fun l=>F true (.agg l)):=bE zk zk zk
theorem Sd {r:List (Nat×V)} {G:List V→Prop}:az (aE Tryz.prog 140) ((0,u)::r) us G=bX u fun c=>aJ c 1 (dp us 0 c fun l'=>az (aE Tryz.prog 140) r l' G):=av zk
theorem Ry {r:List (Nat×V)} {G:List V→Prop}:az (aE Tryz.prog 140) ((1,u)::r) us G=bX u fun c=>aJ c 1 (dp us 1 c fun l'=>az (aE Tryz.prog 140) r l' G):=av zk
theorem abM:dJ Tryz.prog 222 σ kv=aC ([.nilIface]:List Value) (bK σ (.cells (([.nilIface]:List Value).map V.lit)) fun o σ'=>kv true (.ref o 0 0 0) σ'):=bL zk
theorem aaj:fO Tryz.prog 222 u v σ ks=bX v fun c=>aJ c 1 (iK u σ c ks):=bm zk
theorem Z8 {ps:List (Nat×V)}:dI Tryz.prog 143 ps F=aC ([.int .i64 0,.int .i64 0,.int .i64 0]:List Value) (az (aE Tryz.prog 143) ps (([.int .i64 0,.int .i64 0,.int .i64 0]:List Value).map V.lit) fun l=>F true (.agg l)):=bE zk zk zk
theorem Tg {r:List (Nat×V)} {G:List V→Prop}:az (aE Tryz.prog 143) ((0,u)::r) us G=bX u fun c=>aJ c 1 (dp us 0 c fun l'=>az (aE Tryz.prog 143) r l' G):=av zk
theorem Uw {r:List (Nat×V)} {G:List V→Prop}:az (aE Tryz.prog 143) ((1,u)::r) us G=bX u fun c=>aJ c 1 (dp us 1 c fun l'=>az (aE Tryz.prog 143) r l' G):=av zk
theorem TK {r:List (Nat×V)} {G:List V→Prop}:az (aE Tryz.prog 143) ((2,u)::r) us G=bX u fun c=>aJ c 1 (dp us 2 c fun l'=>az (aE Tryz.prog 143) r l' G):=av zk
theorem aas:fO Tryz.prog 143 u v σ ks=bX v fun c=>aJ c 3 (iK u σ c ks):=bm zk
theorem abG:dJ Tryz.prog 143 σ kv=aC ([.int .i64 0,.int .i64 0,.int .i64 0]:List Value) (bK σ (.cells (([.int .i64 0,.int .i64 0,.int .i64 0]:List Value).map V.lit)) fun o σ'=>kv true (.ref o 0 0 0) σ'):=bL zk
theorem abS {ps:List (Nat×V)}:dI Tryz.prog 131 ps F=aC ([.int .i64 0,.int .i64 0,.bool false]:List Value) (az (aE Tryz.prog 131) ps (([.int .i64 0,.int .i64 0,.bool false]:List Value).map V.lit) fun l=>F true (.agg l)):=bE zk zk zk
theorem UE {r:List (Nat×V)} {G:List V→Prop}:az (aE Tryz.prog 131) ((0,u)::r) us G=bX u fun c=>aJ c 1 (dp us 0 c fun l'=>az (aE Tryz.prog 131) r l' G):=av zk
theorem T9 {r:List (Nat×V)} {G:List V→Prop}:az (aE Tryz.prog 131) ((1,u)::r) us G=bX u fun c=>aJ c 1 (dp us 1 c fun l'=>az (aE Tryz.prog 131) r l' G):=av zk
theorem Ue {r:List (Nat×V)} {G:List V→Prop}:az (aE Tryz.prog 131) ((2,u)::r) us G=bX u fun c=>aJ c 1 (dp us 2 c fun l'=>az (aE Tryz.prog 131) r l' G):=av zk
theorem Tv {ps:List (Nat×V)}:gK Tryz.prog 256 1 ps σ kv=fp 3 0 ps fun l=>aJ l 1 (bK σ (.row 3 l) fun o σ'=>kv true (.sl o 3 0 1) σ'):=dm (et:=131) zk ⟨by kernel_rfl,by decide,by decide⟩
theorem ac1 {ps:List (Nat×V)}:dI Tryz.prog 134 ps F=aC ([.int .i64 0,.int .i64 0]:List Value) (az (aE Tryz.prog 134) ps (([.int .i64 0,.int .i64 0]:List Value).map V.lit) fun l=>F true (.agg l)):=bE zk zk zk
theorem RJ {r:List (Nat×V)} {G:List V→Prop}:az (aE Tryz.prog 134) ((0,u)::r) us G=bX u fun c=>aJ c 1 (dp us 0 c fun l'=>az (aE Tryz.prog 134) r l' G):=av zk
theorem S6 {r:List (Nat×V)} {G:List V→Prop}:az (aE Tryz.prog 134) ((1,u)::r) us G=bX u fun c=>aJ c 1 (dp us 1 c fun l'=>az (aE Tryz.prog 134) r l' G):=av zk
theorem acB:fO Tryz.prog 134 u v σ ks=bX v fun c=>aJ c 2 (iK u σ c ks):=bm zk
theorem adD:dJ Tryz.prog 134 σ kv=aC ([.int .i64 0,.int .i64 0]:List Value) (bK σ (.cells (([.int .i64 0,.int .i64 0]:List Value).map V.lit)) fun o σ'=>kv true (.ref o 0 0 0) σ'):=bL zk
theorem XF (h:m<l.length):cY Tryz.prog 76 (.row 3 l) (.lit (.int i (m:Int))) F=F true (.rref 3 l m 0):=dE (et:=36) zk zd h
theorem aeF:eJ Tryz.prog e .len [76] [.row m l] σ kv=fB (.row m l) fun τ v=>kv τ v σ:=dY zk
theorem adj:eJ Tryz.prog e .len [76] [.sl o m off len] σ kv=fB (.sl o m off len) fun τ v=>kv τ v σ:=lu zk
theorem Yk {ps:List (Nat×V)}:gK Tryz.prog 30 0 ps σ kv=fp 1 0 ps fun l=>aJ l 0 (bK σ (.row 1 l) fun o σ'=>kv true (.sl o 1 0 0) σ'):=dm (et:=4) zk ⟨by kernel_rfl,by decide,by decide⟩
theorem RR:mM Tryz.prog e 30 30 u v σ kv=gC v σ 1 fun m=>oc e 1 1 u m σ kv:=gI (et:=4) (ex:=4) (C:=[.bool false]) zk zk zk zk zd rfl
theorem acu:aO Tryz.prog .eql 30 (.row 1 l) (.lit (.slice none 0 0)) F=om .eql l.isEmpty F:=jo ⟨by kernel_rfl,by decide⟩
theorem adg {vs:List V}:aO Tryz.prog .eql 93 (.agg us) (.agg vs) F=j9 [true,true,true] us vs fun r=>dF (zb .eql r) F:=gi zk
theorem RA:aK Tryz.prog 165 (.ref o z i' off) 2 F=F true (.ref o z i' (off+6)):=au (x:=6) (ag:=false) (m:=1) zk
theorem Up:aK Tryz.prog 165 (.rref z l i' off) 2 F=F true (.rref z l i' (off+6)):=bu (x:=6) (ag:=false) (m:=1) zk
theorem aaS {vs:List V}:aO Tryz.prog .eql 81 (.agg us) (.agg vs) F=j9 [true,true,true] us vs fun r=>dF (zb .eql r) F:=gi zk
theorem acP {vs:List V}:aO Tryz.prog .eql 34 (.agg us) (.agg vs) F=j9 [true,true,true] us vs fun r=>dF (zb .eql r) F:=gi zk
theorem acG {ps:List (Nat×V)}:dI Tryz.prog 173 ps F=aC ([.int .i64 0,.int .i64 0,.int .i64 0,.slice none 0 0,.int .i64 0]:List Value) (az (aE Tryz.prog 173) ps (([.int .i64 0,.int .i64 0,.int .i64 0,.slice none 0 0,.int .i64 0]:List Value).map V.lit) fun l=>F true (.agg l)):=bE zk zk zk
theorem Sr {r:List (Nat×V)} {G:List V→Prop}:az (aE Tryz.prog 173) ((0,u)::r) us G=bX u fun c=>aJ c 3 (dp us 0 c fun l'=>az (aE Tryz.prog 173) r l' G):=av zk
theorem UF {r:List (Nat×V)} {G:List V→Prop}:az (aE Tryz.prog 173) ((1,u)::r) us G=bX u fun c=>aJ c 1 (dp us 3 c fun l'=>az (aE Tryz.prog 173) r l' G):=av zk
theorem SO {r:List (Nat×V)} {G:List V→Prop}:az (aE Tryz.prog 173) ((2,u)::r) us G=bX u fun c=>aJ c 1 (dp us 4 c fun l'=>az (aE Tryz.prog 173) r l' G):=av zk
theorem aeo:fO Tryz.prog 37 u v σ ks=bX v fun c=>aJ c 1 (iK u σ c ks):=bm zk
theorem acY:fe Tryz.prog 165 u σ F=fX u σ (some 7) F:=aS zk
theorem aco:dJ Tryz.prog 165 σ kv=aC ([.int .i64 0,.int .i64 0,.int .i64 0,.int .i64 0,.int .i64 0,.slice none 0 0,.int .i64 0]:List Value) (bK σ (.cells (([.int .i64 0,.int .i64 0,.int .i64 0,.int .i64 0,.int .i64 0,.slice none 0 0,.int .i64 0]:List Value).map V.lit)) fun o σ'=>kv true (.ref o 0 0 0) σ'):=bL zk
theorem aaP:fO Tryz.prog 165 u v σ ks=bX v fun c=>aJ c 7 (iK u σ c ks):=bm zk
theorem aac:fO Tryz.prog 159 u v σ ks=bX v fun c=>aJ c 1 (iK u σ c ks):=bm zk
theorem acR:fe Tryz.prog 161 u σ F=fX u σ (some 6) F:=aS zk
theorem ac0:dJ Tryz.prog 161 σ kv=aC ([.int .i64 0,.int .i64 0,.int .i64 0,.slice none 0 0,.int .i64 0,.bool false]:List Value) (bK σ (.cells (([.int .i64 0,.int .i64 0,.int .i64 0,.slice none 0 0,.int .i64 0,.bool false]:List Value).map V.lit)) fun o σ'=>kv true (.ref o 0 0 0) σ'):=bL zk
theorem abR:fO Tryz.prog 161 u v σ ks=bX v fun c=>aJ c 6 (iK u σ c ks):=bm zk
theorem adQ:fe Tryz.prog 201 u σ F=fX u σ (some 2) F:=aS zk
theorem aaD:dJ Tryz.prog 201 σ kv=aC ([.slice none 0 0,.int .i64 0]:List Value) (bK σ (.cells (([.slice none 0 0,.int .i64 0]:List Value).map V.lit)) fun o σ'=>kv true (.ref o 0 0 0) σ'):=bL zk
theorem aaC:fO Tryz.prog 201 u v σ ks=bX v fun c=>aJ c 2 (iK u σ c ks):=bm zk
theorem aeP:fe Tryz.prog 42 u σ F=fX u σ (some 11) F:=aS zk
theorem afZ:fO Tryz.prog 42 u v σ ks=bX v fun c=>aJ c 11 (iK u σ c ks):=bm zk
theorem afk {ps:List (Nat×V)}:dI Tryz.prog 93 ps F=aC ([.int .i64 0,.int .i64 0,.int .i64 0]:List Value) (az (aE Tryz.prog 93) ps (([.int .i64 0,.int .i64 0,.int .i64 0]:List Value).map V.lit) fun l=>F true (.agg l)):=bE zk zk zk
theorem Vy {r:List (Nat×V)} {G:List V→Prop}:az (aE Tryz.prog 93) ((0,u)::r) us G=bX u fun c=>aJ c 1 (dp us 0 c fun l'=>az (aE Tryz.prog 93) r l' G):=av zk
theorem XI {r:List (Nat×V)} {G:List V→Prop}:az (aE Tryz.prog 93) ((1,u)::r) us G=bX u fun c=>aJ c 1 (dp us 1 c fun l'=>az (aE Tryz.prog 93) r l' G):=av zk
theorem YQ {r:List (Nat×V)} {G:List V→Prop}:az (aE Tryz.prog 93) ((2,u)::r) us G=bX u fun c=>aJ c 1 (dp us 2 c fun l'=>az (aE Tryz.prog 93) r l' G):=av zk
theorem Wi:aK Tryz.prog 42 (.ref o z i' off) 6 F=F true (.ref o z i' (off+10)):=au (x:=10) (ag:=false) (m:=1) zk
theorem agn:fO Tryz.prog 40 u v σ ks=bX v fun c=>aJ c 1 (iK u σ c ks):=bm zk
theorem aeG {ps:List (Nat×V)}:dI Tryz.prog 88 ps F=aC ([.int .i64 0,.int .i64 0,.int .i64 0,.int .i64 0,.int .i64 0]:List Value) (az (aE Tryz.prog 88) ps (([.int .i64 0,.int .i64 0,.int .i64 0,.int .i64 0,.int .i64 0]:List Value).map V.lit) fun l=>F true (.agg l)):=bE zk zk zk
theorem VD {r:List (Nat×V)} {G:List V→Prop}:az (aE Tryz.prog 88) ((0,u)::r) us G=bX u fun c=>aJ c 1 (dp us 0 c fun l'=>az (aE Tryz.prog 88) r l' G):=av zk
theorem Xc {r:List (Nat×V)} {G:List V→Prop}:az (aE Tryz.prog 88) ((1,u)::r) us G=bX u fun c=>aJ c 1 (dp us 1 c fun l'=>az (aE Tryz.prog 88) r l' G):=av zk
theorem XO {r:List (Nat×V)} {G:List V→Prop}:az (aE Tryz.prog 88) ((2,u)::r) us G=bX u fun c=>aJ c 3 (dp us 2 c fun l'=>az (aE Tryz.prog 88) r l' G):=av zk
theorem YD:aK Tryz.prog 42 (.ref o z i' off) 5 F=F true (.ref o z i' (off+9)):=au (x:=9) (ag:=false) (m:=1) zk
theorem af7:fO Tryz.prog 39 u v σ ks=bX v fun c=>aJ c 1 (iK u σ c ks):=bm zk
theorem aeR {ps:List (Nat×V)}:dI Tryz.prog 81 ps F=aC ([.int .i64 0,.int .i64 0,.int .i64 0]:List Value) (az (aE Tryz.prog 81) ps (([.int .i64 0,.int .i64 0,.int .i64 0]:List Value).map V.lit) fun l=>F true (.agg l)):=bE zk zk zk
theorem V3 {r:List (Nat×V)} {G:List V→Prop}:az (aE Tryz.prog 81) ((0,u)::r) us G=bX u fun c=>aJ c 1 (dp us 0 c fun l'=>az (aE Tryz.prog 81) r l' G):=av zk
theorem Wf {r:List (Nat×V)} {G:List V→Prop}:az (aE Tryz.prog 81) ((1,u)::r) us G=bX u fun c=>aJ c 1 (dp us 1 c fun l'=>az (aE Tryz.prog 81) r l' G):=av zk
theorem VH {r:List (Nat×V)} {G:List V→Prop}:az (aE Tryz.prog 81) ((2,u)::r) us G=bX u fun c=>aJ c 1 (dp us 2 c fun l'=>az (aE Tryz.prog 81) r l' G):=av zk
theorem Z0:aK Tryz.prog 42 (.ref o z i' off) 4 F=F true (.ref o z i' (off+8)):=au (x:=8) (ag:=false) (m:=1) zk
theorem afa:fO Tryz.prog 38 u v σ ks=bX v fun c=>aJ c 1 (iK u σ c ks):=bm zk
theorem Vz:aK Tryz.prog 42 (.ref o z i' off) 1 F=F true (.ref o z i' (off+1)):=au (x:=1) (ag:=true) (m:=3) zk
theorem Vb:aK Tryz.prog 42 (.ref o z i' off) 3 F=F true (.ref o z i' (off+7)):=au (x:=7) (ag:=false) (m:=1) zk
theorem VU:aK Tryz.prog 42 (.ref o z i' off) 2 F=F true (.ref o z i' (off+4)):=au (x:=4) (ag:=true) (m:=3) zk
theorem aeV {ps:List (Nat×V)}:dI Tryz.prog 42 ps F=aC ([.int .i64 0,.int .i64 0,.int .i64 0,.int .i64 0,.int .i64 0,.int .i64 0,.bool false,.pointer none,.pointer none,.pointer none,.pointer none]:List Value) (az (aE Tryz.prog 42) ps (([.int .i64 0,.int .i64 0,.int .i64 0,.int .i64 0,.int .i64 0,.int .i64 0,.bool false,.pointer none,.pointer none,.pointer none,.pointer none]:List Value).map V.lit) fun l=>F true (.agg l)):=bE zk zk zk
theorem YR {r:List (Nat×V)} {G:List V→Prop}:az (aE Tryz.prog 42) ((0,u)::r) us G=bX u fun c=>aJ c 1 (dp us 0 c fun l'=>az (aE Tryz.prog 42) r l' G):=av zk
theorem agY:dJ Tryz.prog 42 σ kv=aC ([.int .i64 0,.int .i64 0,.int .i64 0,.int .i64 0,.int .i64 0,.int .i64 0,.bool false,.pointer none,.pointer none,.pointer none,.pointer none]:List Value) (bK σ (.cells (([.int .i64 0,.int .i64 0,.int .i64 0,.int .i64 0,.int .i64 0,.int .i64 0,.bool false,.pointer none,.pointer none,.pointer none,.pointer none]:List Value).map V.lit)) fun o σ'=>kv true (.ref o 0 0 0) σ'):=bL zk
theorem acT {ps:List (Nat×V)}:dI Tryz.prog 201 ps F=aC ([.slice none 0 0,.int .i64 0]:List Value) (az (aE Tryz.prog 201) ps (([.slice none 0 0,.int .i64 0]:List Value).map V.lit) fun l=>F true (.agg l)):=bE zk zk zk
theorem UJ {r:List (Nat×V)} {G:List V→Prop}:az (aE Tryz.prog 201) ((0,u)::r) us G=bX u fun c=>aJ c 1 (dp us 0 c fun l'=>az (aE Tryz.prog 201) r l' G):=av zk
theorem ade:mB Tryz.prog 47 (.row 1 (L.map f)) lo hi none F=dW hi L.length L.length fun h=>dW lo 0 h fun x=>F true (.row 1 (((L.take h).drop x).map f)):=oG (et:=5) zk
theorem UQ:Ap Tryz.prog 47 47 u v σ kv=gC v σ 1 fun m=>Dw 1 u m σ kv:=LN (et:=5) (ex:=5) zk zk
theorem ae5:oZ Tryz.prog 47 u v σ kv=jU 1 1 [.int .u8 0] u v σ kv:=nC (et:=5) zk zk zk
theorem QZ (h:0≤a∧a*1≤140737488355328):jU 1 1 [.int .u8 0] (.lit (.int .i64 a)) (.lit (.int .i64 a)) σ kv=bK σ (.row 1 (dQ [.int .u8 0] a.toNat)) fun o σ'=>kv true (.sl o 1 0 a.toNat) σ':=by
 rw[pU (C:=[.int .u8 0]) (z:=1) ⟨h.1,rfl,h.2,by omega,by decide⟩ rfl];simp[aC,bF]
theorem abO (h:m*1≤140737488355328):jU 1 1 [.int .u8 0] (.lit (.int .i64 (m:Int))) (.lit (.int .i64 (m:Int))) σ kv=bK σ (.row 1 (dQ [.int .u8 0] m)) fun o σ'=>kv true (.sl o 1 0 m) σ':=QZ zo
theorem Tk:aK Tryz.prog 176 (.ref o z i' off) 1 F=F true (.ref o z i' (off+1)):=au (x:=1) (ag:=false) (m:=1) zk
theorem Ux:aK Tryz.prog 176 (.ref o z i' off) 0 F=F true (.ref o z i' off):=au (x:=0) (ag:=false) (m:=1) zk
theorem aa2:dJ Tryz.prog 176 σ kv=aC ([.int .u64 0,.int .i64 0]:List Value) (bK σ (.cells (([.int .u64 0,.int .i64 0]:List Value).map V.lit)) fun o σ'=>kv true (.ref o 0 0 0) σ'):=bL zk
theorem U8 {ps:List (Nat×V)}:gK Tryz.prog 76 1 ps σ kv=fp 3 0 ps fun l=>aJ l 1 (bK σ (.row 3 l) fun o σ'=>kv true (.sl o 3 0 1) σ'):=dm (et:=36) zk ⟨by kernel_rfl,by decide,by decide⟩
theorem agh:fe Tryz.prog 40 u σ F=fX u σ (none) F:=aS zk
theorem RN {ps:List (Nat×V)}:gK Tryz.prog 100 2 ps σ kv=fp 1 0 ps fun l=>aJ l 2 (bK σ (.row 1 l) fun o σ'=>kv true (.sl o 1 0 2) σ'):=dm (et:=3) zk ⟨by kernel_rfl,by decide,by decide⟩
theorem N8:mM Tryz.prog e 100 100 u v σ kv=gC v σ 1 fun m=>oc e 1 8 u m σ kv:=gI (et:=3) (ex:=3) (C:=[.int .i64 0]) zk zk zk zk zd rfl
theorem agG:fe Tryz.prog 39 u σ F=fX u σ (none) F:=aS zk
theorem aeq:fe Tryz.prog 38 u σ F=fX u σ (none) F:=aS zk
theorem Tj {ps:List (Nat×V)}:gK Tryz.prog 100 4 ps σ kv=fp 1 0 ps fun l=>aJ l 4 (bK σ (.row 1 l) fun o σ'=>kv true (.sl o 1 0 4) σ'):=dm (et:=3) zk ⟨by kernel_rfl,by decide,by decide⟩
theorem XQ:aK Tryz.prog 42 (.ref o z i' off) 0 F=F true (.ref o z i' off):=au (x:=0) (ag:=false) (m:=1) zk
theorem Tz {P:Program} {t:TypeId}:aO P .and t (.lit (.int .u64 a)) (.lit (.int .u64 1)) F=F true (.lit (.int .u64 (a%2))):=dr 1 zd zd zd
theorem adN {o z i off:Nat}:aO Tryz.prog .neq 40 (.ref o z i off) (.lit (.pointer none)) F=F true (.lit (.bool true)):=sT zk
theorem Xg {z i off:Nat}:aO Tryz.prog .neq 40 (.rref z l i off) (.lit (.pointer none)) F=F true (.lit (.bool true)):=lO zk
theorem acX {o z i off:Nat}:aO Tryz.prog .neq 39 (.ref o z i off) (.lit (.pointer none)) F=F true (.lit (.bool true)):=sT zk
theorem WS {z i off:Nat}:aO Tryz.prog .neq 39 (.rref z l i off) (.lit (.pointer none)) F=F true (.lit (.bool true)):=lO zk
theorem aai {o z i off:Nat}:aO Tryz.prog .neq 38 (.ref o z i off) (.lit (.pointer none)) F=F true (.lit (.bool true)):=sT zk
theorem U7 {z i off:Nat}:aO Tryz.prog .neq 38 (.rref z l i off) (.lit (.pointer none)) F=F true (.lit (.bool true)):=lO zk
theorem ZE {z i off:Nat}:aO Tryz.prog .neq 37 (.rref z l i off) (.lit (.pointer none)) F=F true (.lit (.bool true)):=lO zk
theorem acs:oZ Tryz.prog 171 u v σ kv=jU 2 16 [.int .u64 0,.int .i64 0] u v σ kv:=nC (et:=176) zk zk zk
theorem LD (h:0≤a∧a*16≤140737488355328):jU 2 16 [.int .u64 0,.int .i64 0] (.lit (.int .i64 a)) (.lit (.int .i64 a)) σ kv=bK σ (.row 2 (dQ [.int .u64 0,.int .i64 0] a.toNat)) fun o σ'=>kv true (.sl o 2 0 a.toNat) σ':=by
 rw[pU (C:=[.int .u64 0,.int .i64 0]) (z:=2) ⟨h.1,rfl,h.2,by omega,by decide⟩ rfl];simp[aC,bF]
theorem Y7 (h:m*16≤140737488355328):jU 2 16 [.int .u64 0,.int .i64 0] (.lit (.int .i64 (m:Int))) (.lit (.int .i64 (m:Int))) σ kv=bK σ (.row 2 (dQ [.int .u64 0,.int .i64 0] m)) fun o σ'=>kv true (.sl o 2 0 m) σ':=LD zo
theorem abE {ps:List (Nat×V)}:dI Tryz.prog 167 ps F=aC ([.int .u64 0,.int .u64 0]:List Value) (az (aE Tryz.prog 167) ps (([.int .u64 0,.int .u64 0]:List Value).map V.lit) fun l=>F true (.agg l)):=bE zk zk zk
theorem T3 {r:List (Nat×V)} {G:List V→Prop}:az (aE Tryz.prog 167) ((0,u)::r) us G=bX u fun c=>aJ c 1 (dp us 0 c fun l'=>az (aE Tryz.prog 167) r l' G):=av zk
theorem U6 {r:List (Nat×V)} {G:List V→Prop}:az (aE Tryz.prog 167) ((1,u)::r) us G=bX u fun c=>aJ c 1 (dp us 1 c fun l'=>az (aE Tryz.prog 167) r l' G):=av zk
theorem Yt:aK Tryz.prog 29 (.ref o z i' off) 0 F=F true (.ref o z i' off):=au (x:=0) (ag:=false) (m:=1) zk
theorem Wa:aK Tryz.prog 29 (.ref o z i' off) 1 F=F true (.ref o z i' (off+1)):=au (x:=1) (ag:=false) (m:=1) zk
theorem OX {P:Program} {t:TypeId}:aO P .and t (.lit (.int .i64 a)) (.lit (.int .i64 255)) F=F true (.lit (.int .i64 (a%256))):=dr 8 zd zd zd
theorem afH:fe Tryz.prog 23 u σ F=fX u σ (some 3) F:=aS zk
theorem Yh:aK Tryz.prog 29 (.ref o z i' off) 2 F=F true (.ref o z i' (off+2)):=au (x:=2) (ag:=true) (m:=3) zk
theorem aeE {ps:List (Nat×V)}:dI Tryz.prog 71 ps F=aC ([.int .i64 0,.int .i64 0,.bool false]:List Value) (az (aE Tryz.prog 71) ps (([.int .i64 0,.int .i64 0,.bool false]:List Value).map V.lit) fun l=>F true (.agg l)):=bE zk zk zk
theorem ae2:dJ Tryz.prog 23 σ kv=aC ([.int .i64 0,.int .i64 0,.int .i64 0]:List Value) (bK σ (.cells (([.int .i64 0,.int .i64 0,.int .i64 0]:List Value).map V.lit)) fun o σ'=>kv true (.ref o 0 0 0) σ'):=bL zk
theorem agF:fO Tryz.prog 23 u v σ ks=bX v fun c=>aJ c 3 (iK u σ c ks):=bm zk
theorem acW:fO Tryz.prog 167 u v σ ks=bX v fun c=>aJ c 2 (iK u σ c ks):=bm zk
theorem X9:aK Tryz.prog 26 (.ref o z i' off) 0 F=F true (.ref o z i' off):=au (x:=0) (ag:=false) (m:=1) zk
theorem Zg:aK Tryz.prog 26 (.ref o z i' off) 1 F=F true (.ref o z i' (off+1)):=au (x:=1) (ag:=false) (m:=1) zk
theorem SX {P:Program} {t:TypeId}:aO P .and t (.lit (.int .i64 a)) (.lit (.int .i64 1)) F=F true (.lit (.int .i64 (a%2))):=dr 1 zd zd zd
theorem Wm:aK Tryz.prog 26 (.ref o z i' off) 2 F=F true (.ref o z i' (off+2)):=au (x:=2) (ag:=false) (m:=1) zk
theorem af0 {ps:List (Nat×V)}:dI Tryz.prog 26 ps F=aC ([.int .i64 0,.int .i64 0,.int .i64 0]:List Value) (az (aE Tryz.prog 26) ps (([.int .i64 0,.int .i64 0,.int .i64 0]:List Value).map V.lit) fun l=>F true (.agg l)):=bE zk zk zk
theorem VP {r:List (Nat×V)} {G:List V→Prop}:az (aE Tryz.prog 26) ((0,u)::r) us G=bX u fun c=>aJ c 1 (dp us 0 c fun l'=>az (aE Tryz.prog 26) r l' G):=av zk
theorem ZX {r:List (Nat×V)} {G:List V→Prop}:az (aE Tryz.prog 26) ((1,u)::r) us G=bX u fun c=>aJ c 1 (dp us 1 c fun l'=>az (aE Tryz.prog 26) r l' G):=av zk
theorem Xq {r:List (Nat×V)} {G:List V→Prop}:az (aE Tryz.prog 26) ((2,u)::r) us G=bX u fun c=>aJ c 1 (dp us 2 c fun l'=>az (aE Tryz.prog 26) r l' G):=av zk
theorem aeC:fO Tryz.prog 26 u v σ ks=bX v fun c=>aJ c 3 (iK u σ c ks):=bm zk
theorem afD:dJ Tryz.prog 26 σ kv=aC ([.int .i64 0,.int .i64 0,.int .i64 0]:List Value) (bK σ (.cells (([.int .i64 0,.int .i64 0,.int .i64 0]:List Value).map V.lit)) fun o σ'=>kv true (.ref o 0 0 0) σ'):=bL zk
theorem abp:oZ Tryz.prog 159 u v σ kv=jU 2 16 [.int .i64 0,.int .i64 0] u v σ kv:=nC (et:=151) zk zk zk
theorem L2 (h:0≤a∧a*16≤140737488355328):jU 2 16 [.int .i64 0,.int .i64 0] (.lit (.int .i64 a)) (.lit (.int .i64 a)) σ kv=bK σ (.row 2 (dQ [.int .i64 0,.int .i64 0] a.toNat)) fun o σ'=>kv true (.sl o 2 0 a.toNat) σ':=by
 rw[pU (C:=[.int .i64 0,.int .i64 0]) (z:=2) ⟨h.1,rfl,h.2,by omega,by decide⟩ rfl];simp[aC,bF]
theorem XK (h:m*16≤140737488355328):jU 2 16 [.int .i64 0,.int .i64 0] (.lit (.int .i64 (m:Int))) (.lit (.int .i64 (m:Int))) σ kv=bK σ (.row 2 (dQ [.int .i64 0,.int .i64 0] m)) fun o σ'=>kv true (.sl o 2 0 m) σ':=L2 zo
theorem abU {ps:List (Nat×V)}:dI Tryz.prog 161 ps F=aC ([.int .i64 0,.int .i64 0,.int .i64 0,.slice none 0 0,.int .i64 0,.bool false]:List Value) (az (aE Tryz.prog 161) ps (([.int .i64 0,.int .i64 0,.int .i64 0,.slice none 0 0,.int .i64 0,.bool false]:List Value).map V.lit) fun l=>F true (.agg l)):=bE zk zk zk
theorem Sk {r:List (Nat×V)} {G:List V→Prop}:az (aE Tryz.prog 161) ((0,u)::r) us G=bX u fun c=>aJ c 3 (dp us 0 c fun l'=>az (aE Tryz.prog 161) r l' G):=av zk
theorem SB {r:List (Nat×V)} {G:List V→Prop}:az (aE Tryz.prog 161) ((1,u)::r) us G=bX u fun c=>aJ c 1 (dp us 3 c fun l'=>az (aE Tryz.prog 161) r l' G):=av zk
theorem RP {r:List (Nat×V)} {G:List V→Prop}:az (aE Tryz.prog 161) ((2,u)::r) us G=bX u fun c=>aJ c 1 (dp us 4 c fun l'=>az (aE Tryz.prog 161) r l' G):=av zk
theorem aav {o z i off:Nat}:aO Tryz.prog .eql 37 (.ref o z i off) (.lit (.pointer none)) F=F true (.lit (.bool false)):=I2 zk
theorem afT:oZ Tryz.prog 76 u v σ kv=jU 3 24 [.int .i64 0,.int .i64 0,.bool false] u v σ kv:=nC (et:=36) zk zk zk
theorem Xi (h:m<l.length):cY Tryz.prog 24 (.row 3 l) (.lit (.int i (m:Int))) F=F true (.rref 3 l m 0):=dE (et:=71) zk zd h
theorem abX (h:0≤a∧a<L.length):cY Tryz.prog 24 (.row 3 (L.map f)) (.lit (.int i a)) F=F true (.rref 3 (L.map f) a.toNat 0):=lE (et:=71) zk zd h
theorem T4:mM Tryz.prog e 76 76 u v σ kv=gC v σ 3 fun m=>oc e 3 24 u m σ kv:=gI (et:=36) (ex:=36) (C:=[.int .i64 0,.int .i64 0,.bool false]) zk zk zk zk zd rfl
theorem aeZ:eJ Tryz.prog e .len [24] [.row m l] σ kv=fB (.row m l) fun τ v=>kv τ v σ:=dY zk
theorem ac8:fe Tryz.prog 173 u σ F=fX u σ (some 5) F:=aS zk
theorem acd:fO Tryz.prog 173 u v σ ks=bX v fun c=>aJ c 5 (iK u σ c ks):=bm zk
theorem abm:mB Tryz.prog 30 (.row 1 (L.map f)) lo hi none F=dW hi L.length L.length fun h=>dW lo 0 h fun x=>F true (.row 1 (((L.take h).drop x).map f)):=oG (et:=4) zk
theorem aay {ps:List (Nat×V)}:dI Tryz.prog 128 ps F=aC ([.int .i64 0,.bool false,.slice none 0 0]:List Value) (az (aE Tryz.prog 128) ps (([.int .i64 0,.bool false,.slice none 0 0]:List Value).map V.lit) fun l=>F true (.agg l)):=bE zk zk zk
theorem U3 {r:List (Nat×V)} {G:List V→Prop}:az (aE Tryz.prog 128) ((1,u)::r) us G=bX u fun c=>aJ c 1 (dp us 2 c fun l'=>az (aE Tryz.prog 128) r l' G):=av zk
theorem abg {vs:List V}:aO Tryz.prog .eql 36 (.agg us) (.agg vs) F=j9 [true,true,false] us vs fun r=>dF (zb .eql r) F:=gi zk
theorem ab7 {ps:List (Nat×V)}:dI Tryz.prog 112 ps F=aC ([.pointer none,.int .i64 0]:List Value) (az (aE Tryz.prog 112) ps (([.pointer none,.int .i64 0]:List Value).map V.lit) fun l=>F true (.agg l)):=bE zk zk zk
theorem Tx {r:List (Nat×V)} {G:List V→Prop}:az (aE Tryz.prog 112) ((0,u)::r) us G=bX u fun c=>aJ c 1 (dp us 0 c fun l'=>az (aE Tryz.prog 112) r l' G):=av zk
theorem aeh {ps:List (Nat×V)}:dI Tryz.prog 98 ps F=aC ([.slice none 0 0,.int .i64 0]:List Value) (az (aE Tryz.prog 98) ps (([.slice none 0 0,.int .i64 0]:List Value).map V.lit) fun l=>F true (.agg l)):=bE zk zk zk
theorem ZA:aK Tryz.prog 32 (.ref o z i' off) 5 F=F true (.ref o z i' (off+14)):=au (x:=14) (ag:=false) (m:=1) zk
theorem YL:aK Tryz.prog 32 (.ref o z i' off) 1 F=F true (.ref o z i' (off+1)):=au (x:=1) (ag:=true) (m:=3) zk
theorem VQ:aK Tryz.prog 32 (.ref o z i' off) 2 F=F true (.ref o z i' (off+4)):=au (x:=4) (ag:=false) (m:=1) zk
theorem agR:fe Tryz.prog 24 u σ F=fX u σ (none) F:=aS zk
theorem VM:aK Tryz.prog 32 (.ref o z i' off) 4 F=F true (.ref o z i' (off+8)):=au (x:=8) (ag:=true) (m:=6) zk
theorem agO:fe Tryz.prog 29 u σ F=fX u σ (some 6) F:=aS zk
theorem Wu:aK Tryz.prog 32 (.ref o z i' off) 3 F=F true (.ref o z i' (off+5)):=au (x:=5) (ag:=true) (m:=3) zk
theorem ags:fe Tryz.prog 26 u σ F=fX u σ (some 3) F:=aS zk
theorem Ya:aK Tryz.prog 32 (.ref o z i' off) 0 F=F true (.ref o z i' off):=au (x:=0) (ag:=false) (m:=1) zk
theorem U9:aK Tryz.prog 32 (.ref o z i' off) 6 F=F true (.ref o z i' (off+15)):=au (x:=15) (ag:=false) (m:=1) zk
theorem XJ {r:List (Nat×V)} {G:List V→Prop}:az (aE Tryz.prog 42) ((1,u)::r) us G=bX u fun c=>aJ c 3 (dp us 1 c fun l'=>az (aE Tryz.prog 42) r l' G):=av zk
theorem YF {r:List (Nat×V)} {G:List V→Prop}:az (aE Tryz.prog 42) ((2,u)::r) us G=bX u fun c=>aJ c 3 (dp us 4 c fun l'=>az (aE Tryz.prog 42) r l' G):=av zk
theorem WN:kY Tryz.prog 47 9 u σ kv=eS Tryz.prog 47 9 u σ fun τ u=>kv τ u σ:=G4 zk
theorem Xb:eS Tryz.prog 47 9 u σ F=gC u σ 1 fun l=>zB l fun b=>F true (.lit (.string (bs b))):=Hq zk zk
theorem aea:fe Tryz.prog 32 u σ F=fX u σ (some 16) F:=aS zk
attribute [go_sem ↓] ahl ahc afs agE afX aex af5 af6 afO agq afG afU Z7 afE aeI aaI agV af3 af1 afr abD afR afF acS adG Te JU J3 J6 KT Kf Nc ON acL Rv J1 J5 NJ abN RK Kg JY JQ JX NF aby agy aes aez aeS afz agH aeg aee Z9 aeQ agW aep afm ad7 agX S7 FZ F9 FM FW FP FT G0 agr aeD ago abw aat acq aah VY Xv aaU aa7 adX aaY aaO adL adV adA adW adl adO aaG ace aa5 acD Vl adv acp acm ac4 acI abc aaA abf aao abh acw adn adz acN abt aau abC acg aak adI abe adU adw aar adb aa8 VB ZH abo aam abF aca ab0 aa9 ac2 ab1 aaa Yn adi acJ acz RB TA aic Tl aij Tt abr abk UD VS YT T0 agI agd acf aeX afI ack Zn XA agl TW Ts ahU abB Sv aeN acZ aff QO afl aaT Sq agN Uz abY abK aaX adh ac9 acA abZ UP Tq ads aa4 adf ab2 aaL R8 aap Sf Uu Ow ady SI UC adZ Sz SW adq Uk RI aef aal aaH Rr SA SQ Rw ag4 SU UA Si UK Zq abT UN aaw Zi SZ adR adF ab5 Ub U0 ab6 abz Zm Z4 afc adY afV abP ahC af4 abx TE RO ac5 agC aaf Ur SC Uy R4 aeM SE To Uv Sp SJ aeu UX T6 Uq TR abH ad2 Ti Rx abQ Wk ZN Vf ZT ZW Zs T7 aag TU R3 RE UG TT Sy Ro aaV agU aax aa6 TI Ua abj aaF OM N6 aaK NT Nt abb Og O4 abn Wg ado aaR Vu aci Ye Th TQ ae4 acE Sg afe Yf Uj Oz VF S3 Ov Xs Sn OS Xo Td Tm aaE abu Sa RG adp RD TD afA adm Tc Tu Rz ab9 Zr WT acH TB UW acM ZC aba SH Tn YK U1 Uo TC afM Ug aaQ af9 aet afh agz agS Xu W8 Xp agZ Za YO YZ agi afu Yl Tr S9 TL Ru afp Vq TM acF Xh Yd Xa T5 ae0 agP aec aeA afn ad8 YB VX Se W9 Vj ZF ain XD agx Yx YY XZ Zz YV Z3 Ws ae7 V4 XX agK afi ZD YI V9 WX YS Yc afg Yw Wc aeY ae3 adE Sd Ry abM aaj Z8 Tg Uw TK aas abG abS UE T9 Ue Tv ac1 RJ S6 acB adD aeF adj Yk RR acu adg RA Up aaS acP acG Sr UF SO aeo acY aco aaP aac acR ac0 abR adQ aaD aaC aeP afZ afk Vy XI YQ Wi agn aeG VD Xc XO YD af7 aeR V3 Wf VH Z0 afa Vz Vb VU aeV YR agY acT UJ UQ ae5 QZ Tk Ux aa2 U8 agh RN N8 agG aeq Tj XQ adN Xg acX WS aai U7 ZE acs LD abE T3 U6 Yt Wa afH Yh aeE ae2 agF acW X9 Zg Wm af0 VP ZX Xq aeC afD abp L2 abU Sk SB RP aav afT T4 aeZ ac8 acd aay U3 abg ab7 Tx aeh ZA YL VQ agR VM agO Wu ags Ya U9 XJ YF WN Xb aea
attribute [go_sem ↓ high] Ud Ul Sl ad1 Xz adM S5 BO FU Pe Q8 abi abL Wq H4 U5 Qw ZR HM pO Gg F7 XY UR Vh OB Yu ada aaB WK RQ Sj Xr Tw WI UY Xn Jk RF Jc F3 Ql So UT H6 XF ade abO Tz Y7 OX SX XK Xi abX abm
end
end Go.Proofs.YtcnlmelpnflhnaaGreat
