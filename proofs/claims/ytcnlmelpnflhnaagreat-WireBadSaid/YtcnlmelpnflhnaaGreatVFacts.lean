import Derived.Test.YtcnlmelpnflhnaaGreatVl
import Derived.Test.YtcnlmelpnflhnaaGreatProg
import Derived.KernelRfl
namespace Go
theorem zo {p:Prop} (h:p:=by omega):p:=h
theorem zd {p:Prop} (h:p:=by decide):p:=h
theorem zk {p:Prop} (h:p:=by kernel_rfl):p:=h
end Go
namespace Go.Proofs.YtcnlmelpnflhnaaGreat
open Go.Eng Go.Vx
set_option linter.unusedVariables false
set_option linter.unusedSimpArgs false
set_option maxRecDepth 100000
@[go_sem] def u0:List (Nat×Nat×Nat):=[(0,(5,0)),(2,(5,0)),(1,(0,0)),(3,(0,0)),(4,(5,0)),(5,(0,0)),(6,(2,0)),(7,(5,0)),(8,(5,0)),(9,(5,0)),(10,(2,0))]
@[go_sem] def u1:List (Nat×Nat×Nat):=[(0,(0,0)),(2,(0,0)),(1,(1,0)),(4,(5,0)),(3,(2,0)),(5,(2,0)),(6,(5,0)),(7,(2,0))]
@[go_sem] def u2:List (Nat×Nat×Nat):=[(0,(5,0)),(4,(5,0)),(1,(0,0)),(5,(0,0)),(6,(0,0)),(7,(5,0)),(8,(5,0)),(2,(1,0)),(3,(1,0)),(9,(2,0)),(10,(5,0)),(11,(5,0)),(12,(5,0)),(13,(5,0)),(14,(5,0))]
@[go_sem] def u3:List (Nat×Nat×Nat):=[(0,(5,0)),(3,(5,0)),(1,(0,0)),(4,(0,0)),(2,(1,0)),(5,(2,0)),(6,(2,0)),(7,(5,0)),(8,(5,0)),(9,(5,0)),(10,(5,0)),(11,(5,0))]
@[go_sem] def u4:List (Nat×Nat×Nat):=[(2,(5,0)),(5,(5,0)),(0,(0,0)),(3,(0,0)),(10,(4,0)),(1,(1,0)),(4,(2,0)),(6,(2,0)),(7,(5,0)),(8,(5,0)),(9,(5,0)),(10,(3,0)),(11,(2,0)),(12,(5,0))]
@[go_sem] def u5:List (Nat×Nat×Nat):=[(0,(5,0)),(1,(5,0)),(2,(5,0)),(4,(5,0)),(6,(5,0)),(3,(0,0)),(5,(0,0)),(7,(2,0)),(8,(5,0)),(9,(5,0)),(10,(5,0)),(11,(2,0)),(12,(5,0))]
@[go_sem] def u6:List (Nat×Nat×Nat):=[(0,(5,0)),(1,(5,0)),(2,(5,0)),(5,(5,0)),(6,(5,0)),(7,(5,0)),(9,(5,0)),(8,(0,0)),(10,(0,0)),(11,(5,0)),(3,(1,0)),(4,(1,0)),(12,(2,0)),(13,(5,0)),(14,(5,0)),(15,(5,0)),(16,(5,0)),(17,(5,0))]
@[go_sem] def u7:List (Nat×Nat×Nat):=[(0,(5,0)),(2,(5,0)),(3,(5,0)),(4,(5,0)),(5,(5,0)),(6,(5,0)),(1,(0,0)),(7,(0,0)),(8,(2,0)),(9,(5,0)),(10,(5,0)),(11,(5,0)),(12,(5,0)),(13,(5,0))]
@[go_sem] def u8:List (Nat×Nat×Nat):=[(0,(0,0)),(1,(0,0)),(2,(0,0)),(3,(1,0)),(4,(2,0)),(5,(2,0))]
@[go_sem] def u9:List (Nat×Nat×Nat):=[(0,(5,0)),(2,(5,0)),(3,(5,0)),(4,(5,0)),(1,(0,0)),(5,(0,0)),(6,(2,0)),(7,(2,0)),(8,(1,0)),(9,(2,0)),(10,(5,0))]
@[go_sem] def u10:List (Nat×Nat×Nat):=[(1,(5,0)),(0,(0,0)),(2,(1,0)),(3,(5,0)),(4,(1,0)),(5,(5,0)),(6,(5,0))]
@[go_sem] def u11:List (Nat×Nat×Nat):=[(0,(5,0)),(1,(5,0)),(2,(5,0)),(3,(5,0)),(6,(5,0)),(4,(0,0)),(5,(0,0)),(7,(5,0)),(8,(1,0)),(9,(2,0)),(10,(5,0)),(11,(5,0)),(12,(2,0))]
@[go_sem] def u12:List (Nat×Nat×Nat):=[(0,(5,0)),(4,(5,0)),(1,(0,0)),(2,(5,0)),(3,(5,0)),(5,(0,0)),(6,(5,0)),(7,(5,0)),(8,(5,0)),(9,(0,0)),(10,(1,0)),(11,(5,0)),(12,(2,0))]
@[go_sem] def u13:List (Nat×Nat×Nat):=[(1,(5,0)),(0,(0,0)),(2,(0,0)),(3,(1,0)),(4,(5,0)),(5,(1,0)),(6,(5,0)),(7,(5,0))]
@[go_sem] def u14:List (Nat×Nat×Nat):=[(0,(5,0)),(4,(5,0)),(1,(0,0)),(5,(0,0)),(6,(5,0)),(7,(5,0)),(8,(0,0)),(2,(1,0)),(3,(1,0)),(9,(2,0)),(10,(1,0)),(11,(2,0)),(12,(5,0))]
@[go_sem] def u15:List (Nat×Nat×Nat):=[(0,(5,0)),(2,(5,0)),(4,(5,0)),(6,(5,0)),(1,(0,0)),(3,(0,0)),(5,(0,0)),(7,(0,0)),(8,(1,0)),(9,(1,0)),(10,(5,0))]
@[go_sem] def u16:List (Nat×Nat×Nat):=[(0,(5,0)),(2,(5,0)),(5,(5,0)),(1,(0,0)),(3,(0,0)),(6,(0,0)),(4,(4,0)),(7,(1,0)),(4,(3,0)),(8,(2,0)),(9,(5,0))]
@[go_sem] def u17:List (Nat×Nat×Nat):=[(0,(5,0)),(1,(5,0)),(4,(5,0)),(5,(5,0)),(6,(5,0)),(7,(5,0)),(2,(0,0)),(3,(5,0)),(8,(0,0)),(9,(2,0))]
@[go_sem] def u18:List (Nat×Nat×Nat):=[(0,(5,0)),(2,(5,0)),(3,(5,0)),(4,(5,0)),(1,(0,0)),(5,(0,0)),(6,(2,0)),(7,(5,0)),(8,(5,0)),(9,(5,0)),(10,(5,0)),(11,(2,0)),(12,(5,0))]
@[go_sem] def u19:List (Nat×Nat×Nat):=[(0,(5,0)),(1,(5,0)),(2,(5,0)),(4,(5,0)),(6,(5,0)),(3,(10,168)),(3,(11,0)),(5,(11,0)),(7,(12,0)),(8,(2,0)),(9,(5,0)),(10,(5,0)),(11,(5,0)),(12,(5,0)),(13,(2,0)),(14,(5,0))]
@[go_sem] def u20:List (Nat×Nat×Nat):=[(0,(5,0)),(1,(5,0)),(2,(5,0)),(4,(5,0)),(5,(5,0)),(6,(5,0)),(7,(5,0)),(8,(5,0)),(2,(10,520)),(3,(11,0)),(9,(12,0)),(10,(2,0)),(11,(5,0)),(12,(5,0)),(13,(5,0)),(14,(5,0)),(15,(2,0)),(16,(5,0))]
@[go_sem] def u21:List (Nat×Nat×Nat):=[(0,(5,0)),(1,(5,0)),(2,(5,0)),(4,(5,0)),(5,(5,0)),(6,(5,0)),(3,(10,392)),(3,(11,0)),(7,(12,0)),(8,(11,128)),(9,(2,0)),(10,(5,0)),(11,(5,0)),(12,(5,0)),(13,(5,0)),(14,(2,0)),(15,(5,0))]
@[go_sem] def G0:List (Nat×Nat×Nat):=[(0,(5,0)),(1,(5,0)),(2,(5,0)),(4,(5,0)),(5,(5,0)),(6,(5,0)),(3,(0,0)),(7,(0,0)),(8,(5,0))]
@[go_sem] def u23:List (Nat×Nat×Nat):=[(0,(5,0)),(1,(5,0)),(2,(5,0)),(5,(5,0)),(6,(5,0)),(7,(5,0)),(3,(0,0)),(8,(0,0)),(4,(1,0)),(9,(5,0)),(10,(1,0)),(11,(5,0))]
@[go_sem] def u24:List (Nat×Nat×Nat):=[(0,(5,0)),(2,(5,0)),(3,(5,0)),(1,(0,0)),(4,(0,0)),(5,(1,0)),(6,(5,0)),(7,(5,0)),(8,(2,0))]
@[go_sem] def u25:List (Nat×Nat×Nat):=[(0,(5,0)),(1,(5,0)),(2,(5,0)),(4,(5,0)),(5,(5,0)),(6,(5,0)),(9,(5,0)),(10,(5,0)),(11,(5,0)),(3,(0,0)),(7,(0,0)),(12,(0,0)),(8,(1,0)),(13,(5,0)),(14,(1,0)),(15,(5,0))]
@[go_sem] def u26:List (Nat×Nat×Nat):=[(0,(5,0)),(1,(5,0)),(2,(5,0)),(4,(5,0)),(5,(5,0)),(6,(5,0)),(3,(0,0)),(7,(0,0)),(8,(5,0)),(9,(5,0)),(10,(0,0)),(11,(0,0)),(12,(0,0)),(13,(0,0)),(14,(0,0)),(15,(0,0)),(16,(0,0)),(17,(0,0)),(18,(2,0)),(19,(5,0)),(20,(5,0))]
@[go_sem] def u27:List (Nat×Nat×Nat):=[(0,(5,0)),(1,(5,0)),(2,(5,0)),(4,(5,0)),(5,(5,0)),(6,(5,0)),(3,(0,0)),(7,(0,0)),(8,(5,0)),(9,(5,0)),(10,(0,0)),(11,(0,0)),(12,(0,0)),(13,(0,0)),(14,(0,0)),(15,(0,0)),(16,(0,0)),(17,(0,0)),(18,(0,0)),(19,(5,0)),(20,(5,0)),(21,(0,0)),(22,(0,0)),(23,(0,0)),(24,(0,0)),(25,(0,0)),(26,(0,0)),(27,(0,0)),(28,(0,0)),(29,(0,0)),(30,(5,0)),(31,(5,0)),(32,(0,0)),(33,(0,0)),(34,(0,0)),(35,(0,0)),(36,(0,0)),(37,(0,0)),(38,(0,0)),(39,(0,0)),(40,(2,0)),(41,(5,0)),(42,(5,0))]
@[go_sem] def u28:List (Nat×Nat×Nat):=[(0,(5,0)),(1,(5,0)),(2,(2,0)),(3,(5,0)),(4,(0,0)),(5,(0,0)),(6,(0,0)),(7,(0,0)),(8,(0,0)),(9,(0,0)),(10,(0,0)),(11,(0,0)),(12,(0,0)),(13,(5,0)),(14,(5,0)),(15,(0,0)),(16,(0,0)),(17,(0,0)),(18,(0,0)),(19,(0,0)),(20,(0,0)),(21,(0,0)),(22,(0,0)),(23,(0,0)),(24,(2,0)),(25,(5,0)),(26,(5,0))]
@[go_sem] def u29:List (Nat×Nat×Nat):=[(0,(5,0)),(1,(5,0)),(2,(5,0)),(4,(5,0)),(5,(5,0)),(6,(5,0)),(3,(0,0)),(7,(0,0)),(8,(5,0)),(9,(5,0)),(10,(0,0)),(11,(0,0)),(12,(0,0)),(13,(0,0)),(14,(0,0)),(15,(0,0)),(16,(0,0)),(17,(0,0)),(18,(0,0)),(19,(5,0)),(20,(5,0)),(21,(0,0)),(22,(0,0)),(23,(0,0)),(24,(0,0)),(25,(0,0)),(26,(0,0)),(27,(0,0)),(28,(0,0)),(29,(2,0)),(30,(5,0)),(31,(5,0))]
@[go_sem] def u30:List (Nat×Nat×Nat):=[(0,(5,0)),(1,(0,0)),(2,(5,0)),(3,(0,0)),(4,(0,0)),(5,(0,0)),(6,(1,0)),(7,(0,0)),(8,(5,0))]
@[go_sem] def u31:List (Nat×Nat×Nat):=[(0,(5,0)),(1,(5,0)),(2,(5,0)),(3,(0,0)),(4,(1,0)),(5,(1,0)),(6,(2,0)),(7,(5,0)),(8,(5,0)),(9,(2,0)),(10,(5,0))]
@[go_sem] def u32:List (Nat×Nat×Nat):=[(0,(5,0)),(1,(5,0)),(2,(5,0)),(3,(0,0)),(4,(0,0)),(5,(2,0)),(6,(5,0))]
@[go_sem] def u33:List (Nat×Nat×Nat):=[(2,(5,0)),(3,(5,0)),(4,(5,0)),(5,(0,0)),(0,(1,0)),(1,(1,0)),(6,(2,0)),(7,(2,0)),(8,(5,0)),(9,(5,0)),(10,(5,0)),(11,(5,0)),(12,(5,0))]
@[go_sem] def u34:List (Nat×Nat×Nat):=[(0,(0,0)),(2,(0,0)),(8,(4,0)),(1,(1,0)),(3,(2,0)),(4,(2,0)),(5,(5,0)),(6,(5,0)),(7,(5,0)),(8,(3,0)),(9,(2,0)),(10,(5,0))]
@[go_sem] def u35:List (Nat×Nat×Nat):=[(0,(5,0)),(1,(5,0)),(2,(5,0)),(4,(5,0)),(5,(5,0)),(6,(5,0)),(7,(5,0)),(3,(0,0)),(8,(0,0)),(9,(5,0)),(10,(5,0))]
@[go_sem] def u36:List (Nat×Nat×Nat):=[(0,(5,0)),(3,(5,0)),(7,(5,0)),(10,(5,0)),(1,(0,0)),(2,(5,0)),(4,(0,0)),(5,(5,0)),(6,(5,0)),(8,(0,0)),(9,(5,0)),(14,(5,0)),(4,(10,47104)),(11,(11,0)),(12,(11,2048)),(13,(11,4096)),(15,(12,0)),(16,(5,0)),(17,(2,0))]
@[go_sem] def u37:List (Nat×Nat×Nat):=[(0,(0,0)),(2,(0,0)),(1,(1,0)),(3,(2,0)),(4,(2,0)),(5,(5,0))]
@[go_sem] def u38:List (Nat×Nat×Nat):=[(0,(5,0)),(1,(5,0)),(2,(5,0)),(4,(5,0)),(5,(5,0)),(6,(5,0)),(11,(5,0)),(12,(5,0)),(13,(5,0)),(3,(0,0)),(7,(0,0)),(8,(5,0)),(9,(5,0)),(10,(0,0)),(14,(0,0)),(15,(5,0)),(16,(5,0)),(17,(5,0)),(18,(5,0)),(19,(5,0)),(20,(2,0))]
@[go_sem] def u39:List (Nat×Nat×Nat):=[(0,(5,0)),(4,(5,0)),(1,(0,0)),(2,(5,0)),(5,(0,0)),(6,(5,0)),(3,(1,0)),(7,(2,0)),(8,(5,0)),(9,(5,0))]
@[go_sem] def u40:List (Nat×Nat×Nat):=[(0,(5,0)),(1,(5,0)),(2,(5,0)),(6,(5,0)),(7,(5,0)),(8,(5,0)),(3,(0,0)),(4,(0,0)),(5,(5,0)),(9,(0,0)),(10,(5,0)),(11,(5,0))]
@[go_sem] def u41:List (Nat×Nat×Nat):=[(0,(5,0)),(1,(5,0)),(2,(5,0)),(4,(5,0)),(5,(5,0)),(6,(5,0)),(11,(5,0)),(12,(5,0)),(13,(5,0)),(3,(0,0)),(7,(0,0)),(8,(5,0)),(9,(5,0)),(10,(0,0)),(14,(0,0)),(15,(5,0)),(16,(5,0)),(17,(5,0)),(18,(5,0)),(19,(5,0))]
@[go_sem] def u42:List (Nat×Nat×Nat):=[(0,(5,0)),(2,(0,0)),(1,(1,0)),(3,(2,0)),(4,(5,0))]
@[go_sem] def u43:List (Nat×Nat×Nat):=[(0,(5,0)),(1,(5,0)),(2,(5,0)),(4,(5,0)),(3,(0,0)),(5,(0,0)),(6,(5,0)),(7,(5,0)),(8,(0,0)),(9,(0,0)),(10,(0,0)),(11,(0,0)),(12,(0,0)),(13,(0,0)),(14,(0,0)),(15,(0,0)),(16,(0,0)),(17,(0,0)),(18,(0,0)),(19,(0,0)),(20,(0,0)),(21,(5,0))]
@[go_sem] def u44:List (Nat×Nat×Nat):=[(0,(5,0)),(2,(5,0)),(4,(5,0)),(3,(0,0)),(5,(0,0)),(6,(5,0)),(1,(1,0)),(7,(5,0))]
@[go_sem] def u45:List (Nat×Nat×Nat):=[(0,(5,0)),(1,(5,0)),(2,(5,0)),(5,(5,0)),(6,(5,0)),(7,(5,0)),(9,(5,0)),(10,(5,0)),(11,(5,0)),(3,(0,0)),(8,(0,0)),(12,(0,0)),(4,(1,0)),(13,(5,0)),(14,(1,0)),(15,(5,0))]
@[go_sem] def u46:List (Nat×Nat×Nat):=[(0,(5,0)),(1,(5,0)),(2,(5,0)),(4,(5,0)),(5,(5,0)),(6,(5,0)),(3,(0,0)),(7,(0,0)),(8,(5,0)),(9,(5,0)),(10,(0,0)),(12,(0,0)),(11,(1,0)),(13,(2,0)),(14,(2,0)),(15,(5,0)),(16,(5,0))]
@[go_sem] def u47:List (Nat×Nat×Nat):=[(0,(5,0)),(1,(0,0)),(2,(0,0)),(3,(1,0)),(4,(5,0))]
@[go_sem] def u48:List (Nat×Nat×Nat):=[(0,(5,0)),(1,(5,0)),(2,(5,0)),(4,(5,0)),(5,(5,0)),(6,(5,0)),(7,(5,0)),(9,(5,0)),(12,(5,0)),(14,(5,0)),(17,(5,0)),(18,(5,0)),(19,(5,0)),(3,(0,0)),(8,(0,0)),(10,(5,0)),(11,(0,0)),(13,(1,0)),(15,(5,0)),(16,(5,0)),(20,(5,0)),(21,(5,0)),(22,(2,0))]
@[go_sem] def u49:List (Nat×Nat×Nat):=[(0,(5,0)),(1,(5,0)),(2,(5,0)),(4,(5,0)),(5,(5,0)),(6,(5,0)),(7,(5,0)),(8,(5,0)),(10,(5,0)),(11,(5,0)),(14,(5,0)),(16,(5,0)),(19,(5,0)),(20,(5,0)),(21,(5,0)),(3,(0,0)),(9,(0,0)),(12,(5,0)),(13,(0,0)),(15,(1,0)),(17,(5,0)),(18,(5,0)),(22,(5,0)),(23,(5,0)),(24,(2,0))]
@[go_sem] def u50:List (Nat×Nat×Nat):=[(0,(5,0)),(1,(5,0)),(3,(5,0)),(5,(5,0)),(6,(5,0)),(4,(0,0)),(2,(4,0)),(7,(2,0)),(2,(3,0)),(8,(2,0)),(9,(2,0)),(10,(2,0)),(11,(5,0))]
@[go_sem] def u51:List (Nat×Nat×Nat):=[(0,(0,0)),(2,(0,0)),(5,(0,0)),(8,(0,0)),(1,(1,0)),(3,(1,0)),(4,(5,0)),(6,(1,0)),(7,(1,0)),(9,(2,0)),(10,(2,0)),(11,(2,0)),(12,(5,0))]
@[go_sem] def u52:List (Nat×Nat×Nat):=[(1,(5,0)),(2,(5,0)),(0,(0,0)),(3,(0,0)),(4,(1,0)),(5,(0,0)),(6,(5,0)),(7,(5,0)),(8,(2,0))]
@[go_sem] def u53:List (Nat×Nat×Nat):=[(0,(0,0)),(1,(1,0)),(2,(2,0)),(3,(5,0)),(4,(5,0)),(5,(0,0)),(6,(1,0)),(7,(2,0)),(8,(0,0)),(9,(5,0))]
@[go_sem] def u54:List (Nat×Nat×Nat):=[(0,(0,0)),(1,(0,0)),(4,(4,0)),(2,(1,0)),(3,(2,0)),(4,(3,0)),(5,(2,0))]
@[go_sem] def u55:List (Nat×Nat×Nat):=[(0,(5,0)),(4,(5,0)),(1,(0,0)),(2,(5,0)),(3,(5,0)),(8,(5,0)),(5,(0,0)),(6,(5,0)),(7,(5,0)),(9,(5,0))]
@[go_sem] def u56:List (Nat×Nat×Nat):=[(0,(5,0)),(1,(5,0)),(6,(5,0)),(7,(5,0)),(8,(5,0)),(2,(0,0)),(3,(5,0)),(9,(0,0)),(4,(1,0)),(5,(1,0)),(10,(2,0)),(11,(5,0)),(12,(5,0)),(13,(5,0)),(14,(5,0)),(15,(5,0))]
@[go_sem] def u57:List (Nat×Nat×Nat):=[(0,(5,0)),(1,(5,0)),(3,(5,0)),(5,(5,0)),(6,(5,0)),(7,(5,0)),(2,(0,0)),(8,(0,0)),(4,(1,0)),(9,(2,0)),(10,(5,0)),(11,(5,0)),(12,(5,0)),(13,(2,0)),(14,(5,0))]
@[go_sem] def u58:List (Nat×Nat×Nat):=[(0,(5,0)),(1,(5,0)),(2,(5,0)),(4,(5,0)),(3,(0,0)),(5,(0,0)),(6,(5,0)),(7,(2,0))]
@[go_sem] def u59:List (Nat×Nat×Nat):=[(0,(5,0)),(2,(5,0)),(4,(5,0)),(1,(0,0)),(5,(0,0)),(3,(1,0)),(6,(5,0)),(7,(5,0)),(8,(5,0))]
@[go_sem] def u60:List (Nat×Nat×Nat):=[(0,(5,0)),(1,(5,0)),(2,(5,0)),(3,(5,0)),(4,(0,0)),(5,(5,0)),(6,(0,0)),(7,(0,0)),(8,(0,0)),(9,(0,0)),(10,(0,0)),(11,(0,0)),(12,(0,0)),(13,(0,0)),(14,(0,0)),(15,(0,0)),(16,(0,0)),(17,(5,0))]
@[go_sem] def u61:List (Nat×Nat×Nat):=[(0,(5,0)),(1,(5,0)),(2,(5,0)),(4,(5,0)),(5,(5,0)),(6,(5,0)),(7,(5,0)),(3,(0,0)),(8,(0,0)),(9,(5,0)),(10,(5,0)),(11,(0,0)),(12,(5,0)),(13,(5,0))]
@[go_sem] def u62:List (Nat×Nat×Nat):=[(0,(5,0)),(1,(5,0)),(2,(5,0)),(3,(5,0)),(7,(5,0)),(8,(5,0)),(9,(5,0)),(10,(5,0)),(4,(0,0)),(5,(5,0)),(6,(5,0)),(14,(5,0)),(11,(0,0)),(12,(5,0)),(13,(5,0)),(15,(5,0))]
@[go_sem] def u63:List (Nat×Nat×Nat):=[(0,(5,0)),(1,(0,0)),(2,(5,0)),(3,(5,0)),(4,(0,0)),(5,(0,0)),(6,(0,0)),(7,(0,0)),(9,(0,0)),(10,(0,0)),(11,(0,0)),(12,(0,0)),(8,(1,0)),(13,(0,0)),(14,(0,0)),(15,(5,0))]
@[go_sem] def u64:List (Nat×Nat×Nat):=[(0,(5,0)),(1,(5,0)),(2,(5,0)),(4,(5,0)),(5,(5,0)),(6,(5,0)),(3,(0,0)),(7,(5,0)),(8,(5,0)),(9,(2,0))]
@[go_sem] def u65:List (Nat×Nat×Nat):=[(0,(0,0)),(2,(0,0)),(4,(4,0)),(1,(1,0)),(3,(2,0)),(4,(3,0)),(5,(2,0))]
@[go_sem] def u66:List (Nat×Nat×Nat):=[(0,(0,0)),(2,(0,0)),(8,(4,0)),(9,(4,0)),(1,(1,0)),(3,(2,0)),(4,(5,0)),(5,(5,0)),(6,(5,0)),(7,(5,0)),(8,(3,0)),(9,(3,0)),(10,(2,0)),(11,(2,0)),(12,(5,0))]
@[go_sem] def u67:List (Nat×Nat×Nat):=[(0,(0,0)),(1,(4,0)),(7,(4,0)),(1,(3,0)),(2,(1,0)),(3,(2,0)),(4,(5,0)),(5,(5,0)),(6,(5,0)),(7,(3,0)),(8,(2,0)),(9,(5,0))]
@[go_sem] def u68:List (Nat×Nat×Nat):=[(0,(0,0)),(2,(0,0)),(4,(0,0)),(1,(1,0)),(3,(1,0)),(5,(5,0)),(6,(2,0))]
@[go_sem] def u69:List (Nat×Nat×Nat):=[(0,(5,0)),(5,(5,0)),(1,(0,0)),(2,(0,0)),(6,(0,0)),(7,(0,0)),(3,(1,0)),(4,(1,0)),(8,(1,0)),(9,(2,0)),(10,(2,0)),(11,(5,0))]
@[go_sem] def u70:List (Nat×Nat×Nat):=[(0,(5,0)),(1,(0,0)),(2,(0,0)),(9,(4,0)),(10,(4,0)),(3,(1,0)),(4,(2,0)),(5,(5,0)),(6,(5,0)),(7,(5,0)),(8,(5,0)),(9,(3,0)),(10,(3,0)),(11,(2,0)),(12,(2,0)),(13,(5,0))]
@[go_sem] def u71:List (Nat×Nat×Nat):=[(1,(5,0)),(4,(5,0)),(0,(0,0)),(2,(0,0)),(5,(0,0)),(3,(1,0)),(6,(5,0)),(7,(2,0)),(8,(2,0))]
@[go_sem] def u72:List (Nat×Nat×Nat):=[(0,(5,0)),(1,(0,0)),(4,(0,0)),(2,(1,0)),(3,(1,0)),(5,(2,0)),(6,(2,0)),(7,(5,0)),(8,(5,0)),(9,(5,0)),(10,(5,0))]
@[go_sem] def u73:List (Nat×Nat×Nat):=[(0,(5,0)),(5,(5,0)),(6,(5,0)),(1,(0,0)),(2,(5,0)),(7,(0,0)),(8,(5,0)),(3,(4,0)),(13,(4,0)),(3,(3,0)),(4,(1,0)),(9,(2,0)),(10,(5,0)),(11,(5,0)),(12,(5,0)),(13,(3,0)),(14,(2,0)),(15,(5,0))]
@[go_sem] def u74:List (Nat×Nat×Nat):=[(0,(0,0)),(1,(8,2)),(3,(2,0))]
@[go_sem] def u75:List (Nat×Nat×Nat):=[(0,(5,0)),(2,(5,0)),(1,(0,0)),(3,(0,0)),(4,(5,0)),(5,(0,0)),(6,(2,0)),(7,(5,0)),(8,(5,0)),(9,(5,0)),(10,(5,0)),(11,(5,0))]
@[go_sem] def u76:List (Nat×Nat×Nat):=[(0,(5,0)),(2,(5,0)),(5,(5,0)),(7,(5,0)),(1,(0,0)),(3,(0,0)),(4,(5,0)),(6,(0,0)),(8,(0,0)),(9,(1,0)),(10,(2,0)),(11,(2,0))]
@[go_sem] def u77:List (Nat×Nat×Nat):=[(0,(0,0)),(1,(1,0)),(2,(1,0)),(3,(2,0)),(4,(2,0))]
@[go_sem] def u78:List (Nat×Nat×Nat):=[(0,(5,0)),(2,(5,0)),(1,(0,0)),(3,(0,0)),(4,(5,0)),(5,(0,0)),(7,(0,0)),(6,(1,0)),(8,(2,0)),(9,(2,0)),(10,(2,0)),(11,(5,0))]
@[go_sem] def u79:List (Nat×Nat×Nat):=[(0,(5,0)),(5,(5,0)),(1,(0,0)),(2,(0,0)),(6,(0,0)),(7,(0,0)),(11,(0,0)),(13,(0,0)),(3,(1,0)),(4,(1,0)),(8,(1,0)),(9,(1,0)),(10,(1,0)),(12,(1,0)),(14,(2,0)),(15,(2,0)),(16,(2,0)),(17,(2,0))]
@[go_sem] def u80:List (Nat×Nat×Nat):=[(0,(5,0)),(1,(0,0)),(2,(1,0)),(3,(1,0)),(4,(2,0)),(5,(2,0))]
@[go_sem] def u81:List (Nat×Nat×Nat):=[(0,(5,0)),(2,(5,0)),(5,(5,0)),(7,(5,0)),(1,(0,0)),(3,(5,0)),(4,(0,0)),(10,(5,0)),(6,(0,0)),(8,(5,0)),(9,(0,0)),(11,(5,0))]
@[go_sem] def u82:List (Nat×Nat×Nat):=[(0,(5,0)),(1,(5,0)),(2,(5,0)),(4,(5,0)),(5,(5,0)),(6,(5,0)),(7,(5,0)),(9,(5,0)),(10,(5,0)),(3,(0,0)),(8,(0,0)),(11,(5,0)),(12,(5,0)),(13,(5,0)),(14,(2,0))]
@[go_sem] def u83:List (Nat×Nat×Nat):=[(0,(5,0)),(2,(5,0)),(3,(5,0)),(4,(5,0)),(6,(5,0)),(1,(2,0)),(5,(2,0)),(7,(2,0)),(8,(2,0)),(9,(2,0)),(10,(5,0))]
@[go_sem] def u84:List (Nat×Nat×Nat):=[(0,(5,0)),(2,(5,0)),(4,(5,0)),(1,(0,0)),(3,(0,0)),(5,(0,0)),(6,(1,0)),(7,(2,0)),(8,(2,0))]
@[go_sem] def u85:List (Nat×Nat×Nat):=[(0,(5,0)),(1,(5,0)),(2,(5,0)),(3,(5,0)),(4,(5,0)),(5,(5,0)),(6,(5,0)),(7,(5,0))]
@[go_sem] def u86:List (Nat×Nat×Nat):=[(0,(5,0)),(1,(5,0)),(2,(5,0)),(4,(5,0)),(5,(5,0)),(6,(5,0)),(7,(5,0)),(3,(0,0)),(8,(0,0)),(9,(5,0))]
@[go_sem] def u87:List (Nat×Nat×Nat):=[(0,(5,0)),(1,(5,0)),(2,(5,0)),(4,(5,0)),(5,(5,0)),(6,(5,0)),(7,(5,0)),(9,(5,0)),(10,(5,0)),(11,(5,0)),(12,(5,0)),(3,(0,0)),(8,(0,0)),(13,(0,0)),(14,(2,0)),(15,(5,0)),(16,(5,0)),(17,(5,0)),(18,(5,0))]
@[go_sem] def u88:List (Nat×Nat×Nat):=[(0,(5,0)),(1,(5,0)),(2,(5,0)),(3,(5,0)),(4,(5,0)),(5,(5,0)),(6,(5,0)),(7,(5,0)),(8,(5,0)),(9,(5,0))]
@[go_sem] def u89:List (Nat×Nat×Nat):=[(2,(5,0)),(3,(0,0)),(0,(4,0)),(8,(4,0)),(0,(3,0)),(1,(1,0)),(4,(2,0)),(5,(5,0)),(6,(5,0)),(7,(5,0)),(8,(3,0)),(9,(2,0)),(10,(5,0))]
@[go_sem] def u90:List (Nat×Nat×Nat):=[(0,(5,0)),(1,(5,0)),(2,(5,0)),(3,(0,0)),(4,(0,0)),(5,(5,0)),(6,(5,0)),(7,(0,0)),(8,(0,0)),(10,(0,0)),(11,(0,0)),(9,(1,0)),(12,(2,0)),(13,(0,0)),(14,(5,0)),(15,(5,0))]
@[go_sem] def u91:List (Nat×Nat×Nat):=[(0,(0,0)),(2,(5,0)),(1,(8,3)),(4,(5,0)),(5,(2,0))]
@[go_sem] def u92:List (Nat×Nat×Nat):=[(0,(5,0)),(2,(5,0)),(4,(5,0)),(6,(5,0)),(1,(0,0)),(5,(0,0)),(3,(1,0)),(7,(2,0)),(8,(5,0))]
@[go_sem] def u93:List (Nat×Nat×Nat):=[(0,(5,0)),(2,(5,0)),(1,(0,0)),(4,(5,0)),(3,(8,5)),(6,(5,0)),(7,(2,0))]
def pl:aK:=fun _=> []
section
variable {u v:V} {σ:St} {F:FV} {kv:KV} {ks:KS} {e:Bool} {i:IntKind} {a:Int} {o z i' off len m:Nat} {l:List (List PV)} {us:List V} {β:Type} {L:List β} {f:β→List PV} {lo hi:Option V}
def pl5:aK:=fun id=>match id with
 | 9=>u90
 | _=> []
def pl6:aK:=fun id=>match id with
 | 20=>u91
 | 22=>u92
 | 25=>u92
 | 28=>u92
 | 13=>u92
 | _=> []
def LG:aK:=fun id=>match id with
 | 8=>u0
 | 24=>u1
 | 28=>u2
 | 38=>u3
 | _=> []
theorem ah7:LG 8=u0:=(rfl)
theorem agt:LG 24=u1:=(rfl)
theorem ahB:LG 28=u2:=(rfl)
theorem agY:LG 38=u3:=(rfl)
def ajP:aK:=fun id=>match id with
 | 6=>u93
 | _=> []
def ajT:aK:=fun id=>match id with
 | 6=>G0
 | _=> []
def MD:aK:=fun id=>match id with
 | 5=>u4
 | 7=>u4
 | _=> []
theorem ag4:MD 5=u4:=(rfl)
theorem agP:MD 7=u4:=(rfl)
def R6:aK:=fun id=>match id with
 | 4=>u5
 | _=> []
theorem aho:R6 4=u5:=(rfl)
def Ro:aK:=fun id=>match id with
 | 6=>u6
 | _=> []
theorem agH:Ro 6=u6:=(rfl)
def I5:aK:=fun id=>match id with
 | 9=>u7
 | _=> []
theorem agV:I5 9=u7:=(rfl)
def IC:aK:=fun id=>match id with
 | 10=>u8
 | _=> []
theorem aa9:IC 10=u8:=(rfl)
def aae:aK:=fun id=>match id with
 | 5=>u9
 | _=> []
theorem agF:aae 5=u9:=(rfl)
def Ra:aK:=fun id=>match id with
 | 3=>u10
 | _=> []
theorem afN:Ra 3=u10:=(rfl)
def Xk:aK:=fun id=>match id with
 | 16=>u11
 | _=> []
theorem abL:Xk 16=u11:=(rfl)
def Zi:aK:=fun id=>match id with
 | 2=>u12
 | _=> []
theorem ahS:Zi 2=u12:=(rfl)
def Sy:aK:=fun id=>match id with
 | 4=>u13
 | _=> []
theorem ag2:Sy 4=u13:=(rfl)
def xC:aK:=fun id=>match id with
 | 5=>u14
 | 8=>u15
 | 11=>u16
 | _=> []
theorem ag1:xC 5=u14:=(rfl)
theorem ags:xC 8=u15:=(rfl)
theorem acG:xC 11=u16:=(rfl)
def SI:aK:=fun id=>match id with
 | 5=>u17
 | 6=>u17
 | _=> []
theorem agS:SI 5=u17:=(rfl)
theorem agG:SI 6=u17:=(rfl)
def mL:aK:=fun id=>match id with
 | 11=>u18
 | 13=>u19
 | 18=>u20
 | 21=>u21
 | 24=>u21
 | _=> []
theorem adZ:mL 11=u18:=(rfl)
theorem aeH:mL 13=u19:=(rfl)
def bF:List (Nat×Nat×Nat):=[(3,(11,0)),(5,(11,0)),(7,(12,0))]
theorem Uv {K:KR} {all:List Oper} {ρ:Vg}:cg true Tryz.prog all.toArray [(3,(10,168)),(3,(11,0)),(5,(11,0)),(7,(12,0)),(8,(2,0)),(9,(5,0)),(10,(5,0)),(11,(5,0)),(12,(5,0)),(13,(2,0)),(14,(5,0))] ρ σ K=bN Tryz.prog all.toArray bF 3 168 true ρ σ fun τ ρ' σ'=>cg τ Tryz.prog all.toArray [(8,(2,0)),(9,(5,0)),(10,(5,0)),(11,(5,0)),(12,(5,0)),(13,(2,0)),(14,(5,0))] ρ' σ' K:=(rfl)
theorem Lp {K:KR} {all:List Oper} {ρ:Vg}:bN Tryz.prog all.toArray bF 3 168 true ρ σ K=((bW all 3 fun o=>da true Tryz.prog o ρ σ 1 fun τ u σ'=>bN Tryz.prog all.toArray bF 2 160 τ (bw ρ o.dst u) σ' K)∧(bW all 5 fun o=>da true Tryz.prog o ρ σ 1 fun τ u σ'=>bN Tryz.prog all.toArray bF 2 136 τ (bw ρ o.dst u) σ' K)∧(bW all 7 fun o=>da true Tryz.prog o ρ σ 2 fun τ u σ'=>bN Tryz.prog all.toArray bF 2 40 τ (bw ρ o.dst u) σ' K)∧True):=(rfl)
theorem Lz {K:KR} {all:List Oper} {ρ:Vg}:bN Tryz.prog all.toArray bF 2 160 true ρ σ K=((bW all 5 fun o=>da true Tryz.prog o ρ σ 1 fun τ u σ'=>bN Tryz.prog all.toArray bF 1 128 τ (bw ρ o.dst u) σ' K)∧(bW all 7 fun o=>da true Tryz.prog o ρ σ 2 fun τ u σ'=>bN Tryz.prog all.toArray bF 1 32 τ (bw ρ o.dst u) σ' K)∧True):=(rfl)
theorem LC {K:KR} {all:List Oper} {ρ:Vg}:bN Tryz.prog all.toArray bF 2 136 true ρ σ K=((bW all 3 fun o=>da true Tryz.prog o ρ σ 1 fun τ u σ'=>bN Tryz.prog all.toArray bF 1 128 τ (bw ρ o.dst u) σ' K)∧(bW all 7 fun o=>da true Tryz.prog o ρ σ 2 fun τ u σ'=>bN Tryz.prog all.toArray bF 1 8 τ (bw ρ o.dst u) σ' K)∧True):=(rfl)
theorem Mg {K:KR} {all:List Oper} {ρ:Vg}:bN Tryz.prog all.toArray bF 2 40 true ρ σ K=((bW all 3 fun o=>da true Tryz.prog o ρ σ 1 fun τ u σ'=>bN Tryz.prog all.toArray bF 1 32 τ (bw ρ o.dst u) σ' K)∧(bW all 5 fun o=>da true Tryz.prog o ρ σ 1 fun τ u σ'=>bN Tryz.prog all.toArray bF 1 8 τ (bw ρ o.dst u) σ' K)∧True):=(rfl)
theorem LK {K:KR} {all:List Oper} {ρ:Vg}:bN Tryz.prog all.toArray bF 1 128 true ρ σ K=((bW all 7 fun o=>da true Tryz.prog o ρ σ 2 fun τ u σ'=>bN Tryz.prog all.toArray bF 0 0 τ (bw ρ o.dst u) σ' K)∧True):=(rfl)
theorem OG {K:KR} {all:List Oper} {ρ:Vg}:bN Tryz.prog all.toArray bF 1 32 true ρ σ K=((bW all 5 fun o=>da true Tryz.prog o ρ σ 1 fun τ u σ'=>bN Tryz.prog all.toArray bF 0 0 τ (bw ρ o.dst u) σ' K)∧True):=(rfl)
theorem Qb {K:KR} {all:List Oper} {ρ:Vg}:bN Tryz.prog all.toArray bF 1 8 true ρ σ K=((bW all 3 fun o=>da true Tryz.prog o ρ σ 1 fun τ u σ'=>bN Tryz.prog all.toArray bF 0 0 τ (bw ρ o.dst u) σ' K)∧True):=(rfl)
theorem adS:mL 18=u20:=(rfl)
def fp:List (Nat×Nat×Nat):=[(3,(11,0)),(9,(12,0))]
theorem SX {K:KR} {all:List Oper} {ρ:Vg}:cg true Tryz.prog all.toArray [(2,(10,520)),(3,(11,0)),(9,(12,0)),(10,(2,0)),(11,(5,0)),(12,(5,0)),(13,(5,0)),(14,(5,0)),(15,(2,0)),(16,(5,0))] ρ σ K=bN Tryz.prog all.toArray fp 2 520 true ρ σ fun τ ρ' σ'=>cg τ Tryz.prog all.toArray [(10,(2,0)),(11,(5,0)),(12,(5,0)),(13,(5,0)),(14,(5,0)),(15,(2,0)),(16,(5,0))] ρ' σ' K:=(rfl)
theorem Lx {K:KR} {all:List Oper} {ρ:Vg}:bN Tryz.prog all.toArray fp 2 520 true ρ σ K=((bW all 3 fun o=>da true Tryz.prog o ρ σ 1 fun τ u σ'=>bN Tryz.prog all.toArray fp 1 512 τ (bw ρ o.dst u) σ' K)∧(bW all 9 fun o=>da true Tryz.prog o ρ σ 2 fun τ u σ'=>bN Tryz.prog all.toArray fp 1 8 τ (bw ρ o.dst u) σ' K)∧True):=(rfl)
theorem LB {K:KR} {all:List Oper} {ρ:Vg}:bN Tryz.prog all.toArray fp 1 512 true ρ σ K=((bW all 9 fun o=>da true Tryz.prog o ρ σ 2 fun τ u σ'=>bN Tryz.prog all.toArray fp 0 0 τ (bw ρ o.dst u) σ' K)∧True):=(rfl)
theorem O7 {K:KR} {all:List Oper} {ρ:Vg}:bN Tryz.prog all.toArray fp 1 8 true ρ σ K=((bW all 3 fun o=>da true Tryz.prog o ρ σ 1 fun τ u σ'=>bN Tryz.prog all.toArray fp 0 0 τ (bw ρ o.dst u) σ' K)∧True):=(rfl)
theorem acP:mL 21=u21:=(rfl)
def cG:List (Nat×Nat×Nat):=[(3,(11,0)),(7,(12,0)),(8,(11,128))]
theorem Tf {K:KR} {all:List Oper} {ρ:Vg}:cg true Tryz.prog all.toArray [(3,(10,392)),(3,(11,0)),(7,(12,0)),(8,(11,128)),(9,(2,0)),(10,(5,0)),(11,(5,0)),(12,(5,0)),(13,(5,0)),(14,(2,0)),(15,(5,0))] ρ σ K=bN Tryz.prog all.toArray cG 3 392 true ρ σ fun τ ρ' σ'=>cg τ Tryz.prog all.toArray [(9,(2,0)),(10,(5,0)),(11,(5,0)),(12,(5,0)),(13,(5,0)),(14,(2,0)),(15,(5,0))] ρ' σ' K:=(rfl)
theorem LL {K:KR} {all:List Oper} {ρ:Vg}:bN Tryz.prog all.toArray cG 3 392 true ρ σ K=((bW all 3 fun o=>da true Tryz.prog o ρ σ 1 fun τ u σ'=>bN Tryz.prog all.toArray cG 2 384 τ (bw ρ o.dst u) σ' K)∧(bW all 7 fun o=>da true Tryz.prog o ρ σ 2 fun τ u σ'=>bN Tryz.prog all.toArray cG 2 264 τ (bw ρ o.dst u) σ' K)∧True):=(rfl)
theorem Lt {K:KR} {all:List Oper} {ρ:Vg}:bN Tryz.prog all.toArray cG 2 384 true ρ σ K=((bW all 7 fun o=>da true Tryz.prog o ρ σ 2 fun τ u σ'=>bN Tryz.prog all.toArray cG 1 256 τ (bw ρ o.dst u) σ' K)∧True):=(rfl)
theorem Ln {K:KR} {all:List Oper} {ρ:Vg}:bN Tryz.prog all.toArray cG 2 264 true ρ σ K=((bW all 3 fun o=>da true Tryz.prog o ρ σ 1 fun τ u σ'=>bN Tryz.prog all.toArray cG 1 256 τ (bw ρ o.dst u) σ' K)∧(bW all 8 fun o=>da true Tryz.prog o ρ σ 1 fun τ u σ'=>bN Tryz.prog all.toArray cG 1 8 τ (bw ρ o.dst u) σ' K)∧True):=(rfl)
theorem Ls {K:KR} {all:List Oper} {ρ:Vg}:bN Tryz.prog all.toArray cG 1 256 true ρ σ K=((bW all 8 fun o=>da true Tryz.prog o ρ σ 1 fun τ u σ'=>bN Tryz.prog all.toArray cG 0 0 τ (bw ρ o.dst u) σ' K)∧True):=(rfl)
theorem O3 {K:KR} {all:List Oper} {ρ:Vg}:bN Tryz.prog all.toArray cG 1 8 true ρ σ K=((bW all 3 fun o=>da true Tryz.prog o ρ σ 1 fun τ u σ'=>bN Tryz.prog all.toArray cG 0 0 τ (bw ρ o.dst u) σ' K)∧True):=(rfl)
theorem acB:mL 24=u21:=(rfl)
def VJ:List (Nat×Nat×Nat):=[(3,(11,0)),(7,(12,0)),(8,(11,128))]
def ZR:aK:=fun id=>match id with
 | 6=>G0
 | _=> []
theorem ahv:ZR 6=G0:=(rfl)
def aaR:aK:=fun id=>match id with
 | 1=>u23
 | _=> []
theorem afy:aaR 1=u23:=(rfl)
def JB:aK:=fun id=>match id with
 | 6=>u24
 | _=> []
theorem afE:JB 6=u24:=(rfl)
def YN:aK:=fun id=>match id with
 | 1=>u25
 | _=> []
theorem afV:YN 1=u25:=(rfl)
def QY:aK:=fun id=>match id with
 | 1=>u26
 | _=> []
theorem agz:QY 1=u26:=(rfl)
def Ia:aK:=fun id=>match id with
 | 1=>u27
 | _=> []
theorem ahE:Ia 1=u27:=(rfl)
def L9:aK:=fun id=>match id with
 | 2=>u28
 | _=> []
theorem afk:L9 2=u28:=(rfl)
def RR:aK:=fun id=>match id with
 | 1=>u29
 | _=> []
theorem afi:RR 1=u29:=(rfl)
def ZJ:aK:=fun id=>match id with
 | 13=>u30
 | _=> []
theorem abb:ZJ 13=u30:=(rfl)
def Xt:aK:=fun id=>match id with
 | 6=>u31
 | _=> []
theorem afT:Xt 6=u31:=(rfl)
def Re:aK:=fun id=>match id with
 | 5=>u32
 | 8=>u33
 | _=> []
theorem ahT:Re 5=u32:=(rfl)
theorem afv:Re 8=u33:=(rfl)
def aaT:aK:=fun id=>match id with
 | 2=>u34
 | _=> []
theorem agp:aaT 2=u34:=(rfl)
def aaz:aK:=fun id=>match id with
 | 7=>u35
 | _=> []
theorem afb:aaz 7=u35:=(rfl)
def Sj:aK:=fun id=>match id with
 | 2=>u36
 | _=> []
theorem ahU:Sj 2=u36:=(rfl)
def bR:List (Nat×Nat×Nat):=[(11,(11,0)),(12,(11,2048)),(13,(11,4096)),(15,(12,0))]
theorem Uo {K:KR} {all:List Oper} {ρ:Vg}:cg true Tryz.prog all.toArray [(4,(10,47104)),(11,(11,0)),(12,(11,2048)),(13,(11,4096)),(15,(12,0)),(16,(5,0)),(17,(2,0))] ρ σ K=bN Tryz.prog all.toArray bR 4 47104 true ρ σ fun τ ρ' σ'=>cg τ Tryz.prog all.toArray [(16,(5,0)),(17,(2,0))] ρ' σ' K:=(rfl)
theorem GN {K:KR} {all:List Oper} {ρ:Vg}:bN Tryz.prog all.toArray bR 4 47104 true ρ σ K=((bW all 11 fun o=>da true Tryz.prog o ρ σ 1 fun τ u σ'=>bN Tryz.prog all.toArray bR 3 45056 τ (bw ρ o.dst u) σ' K)∧(bW all 15 fun o=>da true Tryz.prog o ρ σ 2 fun τ u σ'=>bN Tryz.prog all.toArray bR 3 14336 τ (bw ρ o.dst u) σ' K)∧True):=(rfl)
theorem GV {K:KR} {all:List Oper} {ρ:Vg}:bN Tryz.prog all.toArray bR 3 45056 true ρ σ K=((bW all 12 fun o=>da true Tryz.prog o ρ σ 1 fun τ u σ'=>bN Tryz.prog all.toArray bR 2 40960 τ (bw ρ o.dst u) σ' K)∧(bW all 15 fun o=>da true Tryz.prog o ρ σ 2 fun τ u σ'=>bN Tryz.prog all.toArray bR 2 12288 τ (bw ρ o.dst u) σ' K)∧True):=(rfl)
theorem GB {K:KR} {all:List Oper} {ρ:Vg}:bN Tryz.prog all.toArray bR 3 14336 true ρ σ K=((bW all 11 fun o=>da true Tryz.prog o ρ σ 1 fun τ u σ'=>bN Tryz.prog all.toArray bR 2 12288 τ (bw ρ o.dst u) σ' K)∧True):=(rfl)
theorem GK {K:KR} {all:List Oper} {ρ:Vg}:bN Tryz.prog all.toArray bR 2 40960 true ρ σ K=((bW all 13 fun o=>da true Tryz.prog o ρ σ 1 fun τ u σ'=>bN Tryz.prog all.toArray bR 1 32768 τ (bw ρ o.dst u) σ' K)∧(bW all 15 fun o=>da true Tryz.prog o ρ σ 2 fun τ u σ'=>bN Tryz.prog all.toArray bR 1 8192 τ (bw ρ o.dst u) σ' K)∧True):=(rfl)
theorem GG {K:KR} {all:List Oper} {ρ:Vg}:bN Tryz.prog all.toArray bR 2 12288 true ρ σ K=((bW all 12 fun o=>da true Tryz.prog o ρ σ 1 fun τ u σ'=>bN Tryz.prog all.toArray bR 1 8192 τ (bw ρ o.dst u) σ' K)∧True):=(rfl)
theorem GI {K:KR} {all:List Oper} {ρ:Vg}:bN Tryz.prog all.toArray bR 1 32768 true ρ σ K=((bW all 15 fun o=>da true Tryz.prog o ρ σ 2 fun τ u σ'=>bN Tryz.prog all.toArray bR 0 0 τ (bw ρ o.dst u) σ' K)∧True):=(rfl)
theorem HT {K:KR} {all:List Oper} {ρ:Vg}:bN Tryz.prog all.toArray bR 1 8192 true ρ σ K=((bW all 13 fun o=>da true Tryz.prog o ρ σ 1 fun τ u σ'=>bN Tryz.prog all.toArray bR 0 0 τ (bw ρ o.dst u) σ' K)∧True):=(rfl)
def NR:aK:=fun id=>match id with
 | 4=>u37
 | _=> []
theorem ahp:NR 4=u37:=(rfl)
def Ws:aK:=fun id=>match id with
 | 3=>u38
 | _=> []
theorem afI:Ws 3=u38:=(rfl)
def WK:aK:=fun id=>match id with
 | 2=>u39
 | _=> []
theorem ahl:WK 2=u39:=(rfl)
def DW:aK:=fun id=>match id with
 | 1=>u40
 | _=> []
theorem acz:DW 1=u40:=(rfl)
def O6:aK:=fun id=>match id with
 | 1=>u41
 | _=> []
theorem abv:O6 1=u41:=(rfl)
def IH:aK:=fun id=>match id with
 | 4=>u42
 | _=> []
theorem ady:IH 4=u42:=(rfl)
def DS:aK:=fun id=>match id with
 | 9=>u43
 | 14=>u44
 | _=> []
theorem abi:DS 9=u43:=(rfl)
theorem Xn:DS 14=u44:=(rfl)
def Lf:aK:=fun id=>match id with
 | 25=>u11
 | _=> []
theorem YG:Lf 25=u11:=(rfl)
def Qu:aK:=fun id=>match id with
 | 1=>u45
 | _=> []
theorem abX:Qu 1=u45:=(rfl)
def Dk:aK:=fun id=>match id with
 | 1=>u29
 | _=> []
theorem ab8:Dk 1=u29:=(rfl)
def O0:aK:=fun id=>match id with
 | 6=>G0
 | _=> []
theorem ae1:O0 6=G0:=(rfl)
def JS:aK:=fun id=>match id with
 | 1=>u46
 | _=> []
theorem ab0:JS 1=u46:=(rfl)
def Pn:aK:=fun id=>match id with
 | 6=>G0
 | _=> []
theorem abR:Pn 6=G0:=(rfl)
def HA:aK:=fun id=>match id with
 | 1=>u47
 | _=> []
theorem aeM:HA 1=u47:=(rfl)
def KJ:aK:=fun id=>match id with
 | 6=>u48
 | 9=>u49
 | _=> []
theorem aeZ:KJ 6=u48:=(rfl)
theorem aeB:KJ 9=u49:=(rfl)
def Qp:aK:=fun id=>match id with
 | 3=>u50
 | _=> []
theorem ae0:Qp 3=u50:=(rfl)
def PI:aK:=fun id=>match id with
 | 3=>u51
 | _=> []
theorem aeo:PI 3=u51:=(rfl)
def Qm:aK:=fun id=>match id with
 | 1=>u52
 | _=> []
theorem aeR:Qm 1=u52:=(rfl)
def HU:aK:=fun id=>match id with
 | 1=>u53
 | 4=>u54
 | _=> []
theorem abJ:HU 1=u53:=(rfl)
theorem adj:HU 4=u54:=(rfl)
def OX:aK:=fun id=>match id with
 | 1=>u55
 | _=> []
theorem ab6:OX 1=u55:=(rfl)
def PH:aK:=fun id=>match id with
 | 1=>u56
 | _=> []
theorem adK:PH 1=u56:=(rfl)
def Pa:aK:=fun id=>match id with
 | 10=>u57
 | _=> []
theorem WC:Pa 10=u57:=(rfl)
def O5:aK:=fun id=>match id with
 | 3=>u58
 | _=> []
theorem aew:O5 3=u58:=(rfl)
def Qw:aK:=fun id=>match id with
 | 1=>u59
 | _=> []
theorem adw:Qw 1=u59:=(rfl)
def DU:aK:=fun id=>match id with
 | 1=>u60
 | 5=>u61
 | _=> []
theorem ads:DU 1=u60:=(rfl)
theorem aea:DU 5=u61:=(rfl)
def OY:aK:=fun id=>match id with
 | 1=>u62
 | _=> []
theorem adP:OY 1=u62:=(rfl)
def OZ:aK:=fun id=>match id with
 | 6=>G0
 | _=> []
theorem ace:OZ 6=G0:=(rfl)
def O4:aK:=fun id=>match id with
 | 6=>G0
 | _=> []
theorem abD:O4 6=G0:=(rfl)
def lh:aK:=fun id=>match id with
 | 4=>u63
 | _=> []
theorem ach:lh 4=u63:=(rfl)
def Pb:aK:=fun id=>match id with
 | 5=>u64
 | _=> []
theorem abq:Pb 5=u64:=(rfl)
def xD:aK:=fun id=>match id with
 | 1=>u65
 | 2=>u66
 | 4=>u67
 | 5=>u68
 | _=> []
theorem acj:xD 1=u65:=(rfl)
theorem adD:xD 2=u66:=(rfl)
theorem aer:xD 4=u67:=(rfl)
theorem aeA:xD 5=u68:=(rfl)
def Qq:aK:=fun id=>match id with
 | 1=>u69
 | _=> []
theorem adU:Qq 1=u69:=(rfl)
def PQ:aK:=fun id=>match id with
 | 1=>u70
 | _=> []
theorem acw:PQ 1=u70:=(rfl)
def Qv:aK:=fun id=>match id with
 | 1=>u71
 | _=> []
theorem abw:Qv 1=u71:=(rfl)
def PC:aK:=fun id=>match id with
 | 3=>u72
 | _=> []
theorem acF:PC 3=u72:=(rfl)
def PO:aK:=fun id=>match id with
 | 1=>u73
 | _=> []
theorem adm:PO 1=u73:=(rfl)
def O8:aK:=fun id=>match id with
 | 3=>u74
 | _=> []
theorem abm:O8 3=u74:=(rfl)
def Qe:aK:=fun id=>match id with
 | 6=>u75
 | _=> []
theorem aeJ:Qe 6=u75:=(rfl)
def Qk:aK:=fun id=>match id with
 | 1=>u76
 | _=> []
theorem acg:Qk 1=u76:=(rfl)
def KF:aK:=fun id=>match id with
 | 5=>u77
 | 7=>u78
 | _=> []
theorem aeY:KF 5=u77:=(rfl)
theorem aex:KF 7=u78:=(rfl)
def Qh:aK:=fun id=>match id with
 | 1=>u79
 | _=> []
theorem abt:Qh 1=u79:=(rfl)
def O1:aK:=fun id=>match id with
 | 1=>u80
 | _=> []
theorem aeg:O1 1=u80:=(rfl)
def Pr:aK:=fun id=>match id with
 | 7=>u81
 | _=> []
theorem ab9:Pr 7=u81:=(rfl)
def Pt:aK:=fun id=>match id with
 | 10=>u82
 | _=> []
theorem WR:Pt 10=u82:=(rfl)
def Qd:aK:=fun id=>match id with
 | 10=>u83
 | _=> []
theorem aaK:Qd 10=u83:=(rfl)
def P6:aK:=fun id=>match id with
 | 2=>u84
 | _=> []
theorem acs:P6 2=u84:=(rfl)
def P4:aK:=fun id=>match id with
 | 6=>u85
 | _=> []
theorem abo:P4 6=u85:=(rfl)
def Jz:aK:=fun id=>match id with
 | 3=>u86
 | 4=>u87
 | _=> []
theorem acI:Jz 3=u86:=(rfl)
theorem adg:Jz 4=u87:=(rfl)
def P5:aK:=fun id=>match id with
 | 1=>u88
 | _=> []
theorem ac3:P5 1=u88:=(rfl)
def PD:aK:=fun id=>match id with
 | 1=>u89
 | _=> []
theorem aca:PD 1=u89:=(rfl)
def P3:aK:=fun id=>match id with
 | 4=>u77
 | _=> []
theorem ad8:P3 4=u77:=(rfl)
theorem ac4:fr Tryz.prog 157 u σ F=gl u σ (some 1) F:=aV zk
theorem abc:fM Tryz.prog 157 u v σ ks=bZ v fun c=>aM c 1 (iS u σ c ks):=bh zk
theorem ZB {ps:List (Nat×V)}:gV Tryz.prog 27 1 ps σ kv=fD 1 0 ps fun l=>aM l 1 (bK σ (.row 1 l) fun o σ'=>kv true (.sl o 1 0 1) σ'):=dp (et:=67) zk ⟨by kernel_rfl,by decide,by decide⟩
theorem ael:dP Tryz.prog 157 σ kv=aD ([.slice none 0 0]:List Value) (bK σ (.cells (([.slice none 0 0]:List Value).map V.lit)) fun o σ'=>kv true (.ref o 0 0 0) σ'):=bL zk
theorem adQ:fr Tryz.prog 321 u σ F=gl u σ (some 4) F:=aV zk
theorem adG:fM Tryz.prog 321 u v σ ks=bZ v fun c=>aM c 4 (iS u σ c ks):=bh zk
theorem S6:aN Tryz.prog 321 (.ref o z i' off) 3 F=F true (.ref o z i' (off+3)):=aq (x:=3) (ag:=true) (m:=1) zk
theorem UQ:aN Tryz.prog 321 (.ref o z i' off) 1 F=F true (.ref o z i' (off+1)):=aq (x:=1) (ag:=false) (m:=1) zk
theorem ai4:fM Tryz.prog 3 u v σ ks=bZ v fun c=>aM c 1 (iS u σ c ks):=bh zk
theorem UC:aN Tryz.prog 321 (.ref o z i' off) 0 F=F true (.ref o z i' off):=aq (x:=0) (ag:=false) (m:=1) zk
theorem aja:fr Tryz.prog 3 u σ F=gl u σ (none) F:=aV zk
theorem UJ:aN Tryz.prog 321 (.ref o z i' off) 2 F=F true (.ref o z i' (off+2)):=aq (x:=2) (ag:=true) (m:=1) zk
theorem acv:dP Tryz.prog 321 σ kv=aD ([.int .i64 0,.int .i64 0,.slice none 0 0,.slice none 0 0]:List Value) (bK σ (.cells (([.int .i64 0,.int .i64 0,.slice none 0 0,.slice none 0 0]:List Value).map V.lit)) fun o σ'=>kv true (.ref o 0 0 0) σ'):=bL zk
theorem Vt (h:m<l.length):cW Tryz.prog 100 (.row 1 l) (.lit (.int i (m:Int))) F=F true (.rref 1 l m 0):=dM (et:=3) zk zd h
theorem aco:eL Tryz.prog e .len [100] [.row m l] σ kv=fL (.row m l) fun τ v=>kv τ v σ:=ed zk
theorem VU {ps:List (Nat×V)}:gV Tryz.prog 100 1 ps σ kv=fD 1 0 ps fun l=>aM l 1 (bK σ (.row 1 l) fun o σ'=>kv true (.sl o 1 0 1) σ'):=dp (et:=3) zk ⟨by kernel_rfl,by decide,by decide⟩
theorem VC (h:0≤a∧a≤18446744073709551615):nq Tryz.prog 3 67 (.lit (.int i a)) F=F true (.lit (.int .u64 a)):=kQ zk zk h
theorem Xh:gC Tryz.prog 3 67 (.lit (.int i a)) σ F=F true (.lit (.int .u64 (IntKind.wrap .u64 a))):=(eQ zk).trans (jZ zk zk)
theorem TI (h:0≤a∧a≤18446744073709551615):gC Tryz.prog 3 67 (.lit (.int i a)) σ F=F true (.lit (.int .u64 a)):=(eQ zk).trans (kQ zk zk h)
theorem Z5:og Tryz.prog 3 67 u σ kv=gC Tryz.prog 3 67 u σ fun τ u=>kv τ u σ:=gD zk
theorem Vh:aN Tryz.prog 157 (.ref o z i' off) 0 F=F true (.ref o z i' off):=aq (x:=0) (ag:=false) (m:=1) zk
theorem ahF:fr Tryz.prog 27 u σ F=gl u σ (none) F:=aV zk
theorem ahb (h:0≤a∧a<len):cW Tryz.prog 27 (.sl o 1 off len) (.lit (.int i a)) F=F true (.ref o 1 (off+a.toNat) 0):=vV (et:=67) zk h
theorem ae5 (h:m<len):cW Tryz.prog 27 (.sl o 1 off len) (.lit (.int i (m:Int))) F=F true (.ref o 1 (off+m) 0):=kC (et:=67) zk h
theorem adl (h:0≤a∧a<l.length):cW Tryz.prog 27 (.row 1 l) (.lit (.int i a)) F=F true (.rref 1 l a.toNat 0):=yD (et:=67) zk zd h
theorem YK (h:m<l.length):cW Tryz.prog 27 (.row 1 l) (.lit (.int i (m:Int))) F=F true (.rref 1 l m 0):=dM (et:=67) zk zd h
theorem aeN (h:0≤a∧a<L.length):cW Tryz.prog 27 (.row 1 (L.map f)) (.lit (.int i a)) F=F true (.rref 1 (L.map f) a.toNat 0):=lL (et:=67) zk zd h
theorem afZ:fr Tryz.prog 67 u σ F=gl u σ (none) F:=aV zk
theorem agJ:eL Tryz.prog e .len [27] [.row m l] σ kv=fL (.row m l) fun τ v=>kv τ v σ:=ed zk
theorem adq:eL Tryz.prog e .len [27] [.sl o m off len] σ kv=fL (.sl o m off len) fun τ v=>kv τ v σ:=lF zk
theorem aas:gC Tryz.prog 67 3 (.lit (.int i a)) σ F=F true (.lit (.int .i64 (IntKind.wrap .i64 a))):=(eQ zk).trans (jZ zk zk)
theorem Um (h: -9223372036854775808≤a∧a≤9223372036854775807):gC Tryz.prog 67 3 (.lit (.int i a)) σ F=F true (.lit (.int .i64 a)):=(eQ zk).trans (xM zk zk h)
theorem YL:og Tryz.prog 67 3 u σ kv=gC Tryz.prog 67 3 u σ fun τ u=>kv τ u σ:=gD zk
theorem ahi:fM Tryz.prog 67 u v σ ks=bZ v fun c=>aM c 1 (iS u σ c ks):=bh zk
theorem Cq {P:Program} {t:TypeId}:aQ P .and t (.lit (.int .u64 a)) (.lit (.int .u64 4294967295)) F=F true (.lit (.int .u64 (a%4294967296))):=dt 32 zd zd zd
theorem GJ {P:Program} {t:TypeId}:aQ P .shr t (.lit (.int .u64 a)) (.lit (.int .u64 32)) F=F true (.lit (.int .u64 (a/4294967296))):=by rw[fF zd];rfl
theorem QA (h:0≤a∧a≤18446744073709551615):nq Tryz.prog 3 202 (.lit (.int i a)) F=F true (.lit (.int .u64 a)):=kQ zk zk h
theorem Sz (h:0≤a∧a≤18446744073709551615):gC Tryz.prog 3 202 (.lit (.int i a)) σ F=F true (.lit (.int .u64 a)):=(eQ zk).trans (kQ zk zk h)
theorem Vc:og Tryz.prog 3 202 u σ kv=gC Tryz.prog 3 202 u σ fun τ u=>kv τ u σ:=gD zk
theorem UI:aN Tryz.prog 232 (.ref o z i' off) 1 F=F true (.ref o z i' (off+1)):=aq (x:=1) (ag:=false) (m:=1) zk
theorem aiN:fr Tryz.prog 4 u σ F=gl u σ (none) F:=aV zk
theorem acE:fM Tryz.prog 232 u v σ ks=bZ v fun c=>aM c 2 (iS u σ c ks):=bh zk
theorem TQ:aN Tryz.prog 232 (.ref o z i' off) 0 F=F true (.ref o z i' off):=aq (x:=0) (ag:=true) (m:=1) zk
theorem afQ {x y:Bool}:aQ Tryz.prog .eql 4 (.lit (.bool x)) (.lit (.bool y)) F=F true (.lit (.bool (x==y))):=Hp zk
theorem ad5:dP Tryz.prog 232 σ kv=aD ([.slice none 0 0,.bool false]:List Value) (bK σ (.cells (([.slice none 0 0,.bool false]:List Value).map V.lit)) fun o σ'=>kv true (.ref o 0 0 0) σ'):=bL zk
theorem agi:pq Tryz.prog 27 u v σ kv=ki 1 8 [.int .u64 0] u v σ kv:=nO (et:=67) zk zk zk
theorem Sa (h:0≤a∧a*8≤140737488355328):ki 1 8 [.int .u64 0] (.lit (.int .i64 a)) (.lit (.int .i64 a)) σ kv=bK σ (.row 1 (dV [.int .u64 0] a.toNat)) fun o σ'=>kv true (.sl o 1 0 a.toNat) σ':=by
 rw[qn (C:=[.int .u64 0]) (z:=1) ⟨h.1,rfl,h.2,by omega,by decide⟩ rfl];simp[aD,bD]
theorem acm (h:m*8≤140737488355328):ki 1 8 [.int .u64 0] (.lit (.int .i64 m)) (.lit (.int .i64 m)) σ kv=bK σ (.row 1 (dV [.int .u64 0] m)) fun o σ'=>kv true (.sl o 1 0 m) σ':=Sa zo
theorem ago:mF Tryz.prog 27 (.sl o 1 off len) lo hi none F=ec hi len len fun h=>ec lo 0 h fun l=>F true (.sl o 1 (off+l) (h-l)):=LU (et:=67) zk
theorem acN:mF Tryz.prog 27 (.row 1 (L.map f)) lo hi none F=ec hi L.length L.length fun h=>ec lo 0 h fun x=>F true (.row 1 (((L.take h).drop x).map f)):=oT (et:=67) zk
theorem abW {ps:List (Nat×V)}:dO Tryz.prog 157 ps F=aD ([.slice none 0 0]:List Value) (az (aH Tryz.prog 157) ps (([.slice none 0 0]:List Value).map V.lit) fun l=>F true (.agg l)):=bC zk zk zk
theorem TM:aN Tryz.prog 234 (.ref o z i' off) 1 F=F true (.ref o z i' (off+2)):=aq (x:=2) (ag:=true) (m:=1) zk
theorem ahJ {x y:Bool}:aQ Tryz.prog .neq 4 (.lit (.bool x)) (.lit (.bool y)) F=F true (.lit (.bool (!(x==y)))):=K6 zk
theorem VQ:aN Tryz.prog 234 (.ref o z i' off) 0 F=F true (.ref o z i' off):=aq (x:=0) (ag:=true) (m:=2) zk
theorem ac1:fr Tryz.prog 232 u σ F=gl u σ (some 2) F:=aV zk
theorem acM:fr Tryz.prog 234 u σ F=gl u σ (some 3) F:=aV zk
theorem abZ:fM Tryz.prog 234 u v σ ks=bZ v fun c=>aM c 3 (iS u σ c ks):=bh zk
theorem aek:dP Tryz.prog 234 σ kv=aD ([.slice none 0 0,.bool false,.slice none 0 0]:List Value) (bK σ (.cells (([.slice none 0 0,.bool false,.slice none 0 0]:List Value).map V.lit)) fun o σ'=>kv true (.ref o 0 0 0) σ'):=bL zk
theorem aee {ps:List (Nat×V)}:dO Tryz.prog 232 ps F=aD ([.slice none 0 0,.bool false]:List Value) (az (aH Tryz.prog 232) ps (([.slice none 0 0,.bool false]:List Value).map V.lit) fun l=>F true (.agg l)):=bC zk zk zk
theorem adH:fr Tryz.prog 131 u σ F=gl u σ (some 3) F:=aV zk
theorem ac2:fM Tryz.prog 131 u v σ ks=bZ v fun c=>aM c 3 (iS u σ c ks):=bh zk
theorem V8:aN Tryz.prog 131 (.ref o z i' off) 1 F=F true (.ref o z i' (off+1)):=aq (x:=1) (ag:=false) (m:=1) zk
theorem UG:aN Tryz.prog 131 (.ref o z i' off) 0 F=F true (.ref o z i' off):=aq (x:=0) (ag:=false) (m:=1) zk
theorem aev:dP Tryz.prog 131 σ kv=aD ([.int .i64 0,.int .i64 0,.bool false]:List Value) (bK σ (.cells (([.int .i64 0,.int .i64 0,.bool false]:List Value).map V.lit)) fun o σ'=>kv true (.ref o 0 0 0) σ'):=bL zk
theorem ab4:fr Tryz.prog 274 u σ F=gl u σ (some 256) F:=aV zk
theorem aei:fM Tryz.prog 274 u v σ ks=bZ v fun c=>aM c 256 (iS u σ c ks):=bh zk
theorem ac5 (h:0≤a∧a<256):cW Tryz.prog 274 (.ref o 0 0 off) (.lit (.int i a)) F=F true (.ref o 1 a.toNat off):=Mt (et:=198) zk h
theorem XL (h:m<256):cW Tryz.prog 274 (.ref o 0 0 off) (.lit (.int i (m:Int))) F=F true (.ref o 1 m off):=Kn (et:=198) zk h
theorem abO:fM Tryz.prog 198 u v σ ks=bZ v fun c=>aM c 1 (iS u σ c ks):=bh zk
theorem Ji {P:Program} {t:TypeId}:aQ P .shr t (.lit (.int .u32 a)) (.lit (.int .u64 1)) F=F true (.lit (.int .u32 (a/2))):=by rw[nr zd];rfl
theorem Wn {P:Program} {t:TypeId}:aQ P .and t (.lit (.int .u32 a)) (.lit (.int .u32 1)) F=F true (.lit (.int .u32 (a%2))):=dt 1 zd zd zd
theorem RP (h:0≤a∧a≤4294967295):gC Tryz.prog 3 198 (.lit (.int i a)) σ F=F true (.lit (.int .u32 a)):=(eQ zk).trans (IP zk zk h)
theorem Tx:og Tryz.prog 3 198 u σ kv=gC Tryz.prog 3 198 u σ fun τ u=>kv τ u σ:=gD zk
theorem abr:dP Tryz.prog 274 σ kv=aD ((List.replicate 256 (.int .u32 0)):List Value) (bK σ (.cells (((List.replicate 256 (.int .u32 0)):List Value).map V.lit)) fun o σ'=>kv true (.ref o 0 0 0) σ'):=bL zk
theorem TD:gC Tryz.prog 198 5 (.lit (.int i a)) σ F=F true (.lit (.int .u8 (IntKind.wrap .u8 a))):=(eQ zk).trans (jZ zk zk)
theorem VL:og Tryz.prog 198 5 u σ kv=gC Tryz.prog 198 5 u σ fun τ u=>kv τ u σ:=gD zk
theorem PT {s:ByteArray} (h:0≤a∧a<s.size):qb Tryz.prog 9 (.lit (.string s)) (.lit (.int i a)) F=F true (.lit (.int .u8 (rp s a.toNat))):=GY zk h
theorem aaU (h: -9223372036854775808≤a∧a≤9223372036854775807):gC Tryz.prog 5 3 (.lit (.int i a)) σ F=F true (.lit (.int .i64 a)):=(eQ zk).trans (xM zk zk h)
theorem aez:og Tryz.prog 5 3 u σ kv=gC Tryz.prog 5 3 u σ fun τ u=>kv τ u σ:=gD zk
theorem IX {P:Program} {t:TypeId}:aQ P .shr t (.lit (.int .u32 a)) (.lit (.int .u64 8)) F=F true (.lit (.int .u32 (a/256))):=by rw[nr zd];rfl
theorem qh {P:Program} {t:TypeId}:aQ P .and t (.lit (.int .u64 a)) (.lit (.int .u64 2305843009213693951)) F=F true (.lit (.int .u64 (a%2305843009213693952))):=dt 61 zd zd zd
theorem G4 {P:Program} {t:TypeId}:aQ P .shl t (.lit (.int .u64 a)) (.lit (.int .u64 3)) F=F true (.lit (.int .u64 (IntKind.wrap .u64 (a*8)))):=by rw[oc zd];rfl
theorem GS {P:Program} {t:TypeId}:aQ P .shr t (.lit (.int .u64 a)) (.lit (.int .u64 61)) F=F true (.lit (.int .u64 (a/2305843009213693952))):=by rw[fF zd];rfl
theorem T6:aN Tryz.prog 151 (.ref o z i' off) 0 F=F true (.ref o z i' off):=aq (x:=0) (ag:=false) (m:=1) zk
theorem VT:aN Tryz.prog 151 (.ref o z i' off) 1 F=F true (.ref o z i' (off+1)):=aq (x:=1) (ag:=false) (m:=1) zk
theorem ae3 {ps:List (Nat×V)}:dO Tryz.prog 151 ps F=aD ([.int .i64 0,.int .i64 0]:List Value) (az (aH Tryz.prog 151) ps (([.int .i64 0,.int .i64 0]:List Value).map V.lit) fun l=>F true (.agg l)):=bC zk zk zk
theorem TV {r:List (Nat×V)} {G:List V→Prop}:az (aH Tryz.prog 151) ((0,u)::r) us G=bZ u fun c=>aM c 1 (dm us 0 c fun l'=>az (aH Tryz.prog 151) r l' G):=au zk
theorem Ug {r:List (Nat×V)} {G:List V→Prop}:az (aH Tryz.prog 151) ((1,u)::r) us G=bZ u fun c=>aM c 1 (dm us 1 c fun l'=>az (aH Tryz.prog 151) r l' G):=au zk
theorem aeu:fM Tryz.prog 151 u v σ ks=bZ v fun c=>aM c 2 (iS u σ c ks):=bh zk
theorem VB:aN Tryz.prog 161 (.ref o z i' off) 0 F=F true (.ref o z i' off):=aq (x:=0) (ag:=true) (m:=3) zk
theorem Td:aN Tryz.prog 161 (.rref z l i' off) 0 F=F true (.rref z l i' off):=bE (x:=0) (ag:=true) (m:=3) zk
theorem afj:fr Tryz.prog 81 u σ F=gl u σ (some 3) F:=aV zk
theorem abn:dP Tryz.prog 151 σ kv=aD ([.int .i64 0,.int .i64 0]:List Value) (bK σ (.cells (([.int .i64 0,.int .i64 0]:List Value).map V.lit)) fun o σ'=>kv true (.ref o 0 0 0) σ'):=bL zk
theorem abK {ps:List (Nat×V)}:dO Tryz.prog 234 ps F=aD ([.slice none 0 0,.bool false,.slice none 0 0]:List Value) (az (aH Tryz.prog 234) ps (([.slice none 0 0,.bool false,.slice none 0 0]:List Value).map V.lit) fun l=>F true (.agg l)):=bC zk zk zk
theorem SQ {r:List (Nat×V)} {G:List V→Prop}:az (aH Tryz.prog 234) ((0,u)::r) us G=bZ u fun c=>aM c 2 (dm us 0 c fun l'=>az (aH Tryz.prog 234) r l' G):=au zk
theorem TW {r:List (Nat×V)} {G:List V→Prop}:az (aH Tryz.prog 234) ((1,u)::r) us G=bZ u fun c=>aM c 1 (dm us 2 c fun l'=>az (aH Tryz.prog 234) r l' G):=au zk
theorem Ud:aN Tryz.prog 134 (.ref o z i' off) 0 F=F true (.ref o z i' off):=aq (x:=0) (ag:=false) (m:=1) zk
theorem SY:aN Tryz.prog 131 (.ref o z i' off) 2 F=F true (.ref o z i' (off+2)):=aq (x:=2) (ag:=false) (m:=1) zk
theorem ahZ:fM Tryz.prog 4 u v σ ks=bZ v fun c=>aM c 1 (iS u σ c ks):=bh zk
theorem Ue:aN Tryz.prog 134 (.ref o z i' off) 1 F=F true (.ref o z i' (off+1)):=aq (x:=1) (ag:=false) (m:=1) zk
theorem VR:aN Tryz.prog 143 (.ref o z i' off) 0 F=F true (.ref o z i' off):=aq (x:=0) (ag:=false) (m:=1) zk
theorem TF:aN Tryz.prog 143 (.ref o z i' off) 1 F=F true (.ref o z i' (off+1)):=aq (x:=1) (ag:=false) (m:=1) zk
theorem V3:aN Tryz.prog 143 (.ref o z i' off) 2 F=F true (.ref o z i' (off+2)):=aq (x:=2) (ag:=false) (m:=1) zk
theorem Y9:kc Tryz.prog .eql 222 (.const .nilIface) (.lit .nilIface) (.lit .nilIface) F=F true (.lit (.bool true)):=HF zk
theorem aav {s:TypeId} {b:Value}:kc Tryz.prog .eql 222 (.const .nilIface) (.lit (.iface s b)) (.lit .nilIface) F=F true (.lit (.bool false)):=JO zk
theorem acV:fr Tryz.prog 143 u σ F=gl u σ (some 3) F:=aV zk
theorem V6:aN Tryz.prog 169 (.ref o z i' off) 0 F=F true (.ref o z i' off):=aq (x:=0) (ag:=true) (m:=2) zk
theorem aby:fr Tryz.prog 167 u σ F=gl u σ (some 2) F:=aV zk
theorem aao {ps:List (Nat×V)}:gV Tryz.prog 90 1 ps σ kv=fD 2 0 ps fun l=>aM l 1 (bK σ (.row 2 l) fun o σ'=>kv true (.sl o 2 0 1) σ'):=dp (et:=167) zk ⟨by kernel_rfl,by decide,by decide⟩
theorem Uj:mW Tryz.prog e 90 90 u v σ kv=iG v σ 2 fun m=>oD e 2 16 u m σ kv:=gT (et:=167) (ex:=167) (C:=[.int .u64 0,.int .u64 0]) zk zk zk zk zd rfl
theorem Zf (h:m<len):cW Tryz.prog 163 (.sl o 3 off len) (.lit (.int i (m:Int))) F=F true (.ref o 3 (off+m) 0):=kC (et:=169) zk h
theorem Wa (h:m<l.length):cW Tryz.prog 163 (.row 3 l) (.lit (.int i (m:Int))) F=F true (.rref 3 l m 0):=dM (et:=169) zk zd h
theorem aeV:fr Tryz.prog 169 u σ F=gl u σ (some 3) F:=aV zk
theorem aeG:dP Tryz.prog 169 σ kv=aD ([.int .u64 0,.int .u64 0,.pointer none]:List Value) (bK σ (.cells (([.int .u64 0,.int .u64 0,.pointer none]:List Value).map V.lit)) fun o σ'=>kv true (.ref o 0 0 0) σ'):=bL zk
theorem ac9:fM Tryz.prog 169 u v σ ks=bZ v fun c=>aM c 3 (iS u σ c ks):=bh zk
theorem Vr:aN Tryz.prog 165 (.ref o z i' off) 1 F=F true (.ref o z i' (off+5)):=aq (x:=5) (ag:=false) (m:=1) zk
theorem Wj:aN Tryz.prog 165 (.rref z l i' off) 1 F=F true (.rref z l i' (off+5)):=bE (x:=5) (ag:=false) (m:=1) zk
theorem ada:fr Tryz.prog 163 u σ F=gl u σ (none) F:=aV zk
theorem acC:eL Tryz.prog e .len [163] [.row m l] σ kv=fL (.row m l) fun τ v=>kv τ v σ:=ed zk
theorem aar:eL Tryz.prog e .len [163] [.sl o m off len] σ kv=fL (.sl o m off len) fun τ v=>kv τ v σ:=lF zk
theorem Wy (h:m<l.length):cW Tryz.prog 90 (.row 2 l) (.lit (.int i (m:Int))) F=F true (.rref 2 l m 0):=dM (et:=167) zk zd h
theorem aa5 {vs:List V}:aQ Tryz.prog .neq 167 (.agg us) (.agg vs) F=kB [true,true] us vs fun r=>dB (zI .neq r) F:=gz zk
theorem age:eL Tryz.prog e .len [90] [.row m l] σ kv=fL (.row m l) fun τ v=>kv τ v σ:=ed zk
theorem PZ {P:Program} {t:TypeId}:aQ P .and t (.lit (.int .u64 a)) (.lit (.int .u64 127)) F=F true (.lit (.int .u64 (a%128))):=dt 7 zd zd zd
theorem ae2:fr Tryz.prog 198 u σ F=gl u σ (none) F:=aV zk
theorem agW (h:0≤a∧a<len):cW Tryz.prog 47 (.sl o 1 off len) (.lit (.int i a)) F=F true (.ref o 1 (off+a.toNat) 0):=vV (et:=5) zk h
theorem adk (h:m<len):cW Tryz.prog 47 (.sl o 1 off len) (.lit (.int i (m:Int))) F=F true (.ref o 1 (off+m) 0):=kC (et:=5) zk h
theorem acR (h:0≤a∧a<l.length):cW Tryz.prog 47 (.row 1 l) (.lit (.int i a)) F=F true (.rref 1 l a.toNat 0):=yD (et:=5) zk zd h
theorem ZI (h:m<l.length):cW Tryz.prog 47 (.row 1 l) (.lit (.int i (m:Int))) F=F true (.rref 1 l m 0):=dM (et:=5) zk zd h
theorem aef (h:0≤a∧a<L.length):cW Tryz.prog 47 (.row 1 (L.map f)) (.lit (.int i a)) F=F true (.rref 1 (L.map f) a.toNat 0):=lL (et:=5) zk zd h
theorem aiw:fr Tryz.prog 5 u σ F=gl u σ (none) F:=aV zk
theorem ag3:eL Tryz.prog e .len [47] [.row m l] σ kv=fL (.row m l) fun τ v=>kv τ v σ:=ed zk
theorem acA:eL Tryz.prog e .len [47] [.sl o m off len] σ kv=fL (.sl o m off len) fun τ v=>kv τ v σ:=lF zk
theorem UU:aN Tryz.prog 195 (.ref o z i' off) 2 F=F true (.ref o z i' (off+2)):=aq (x:=2) (ag:=false) (m:=1) zk
theorem Tj:aN Tryz.prog 195 (.rref z l i' off) 2 F=F true (.rref z l i' (off+2)):=bE (x:=2) (ag:=false) (m:=1) zk
theorem aeb:fr Tryz.prog 134 u σ F=gl u σ (some 2) F:=aV zk
theorem ahz:fr Tryz.prog 34 u σ F=gl u σ (some 3) F:=aV zk
theorem abg {ps:List (Nat×V)}:dO Tryz.prog 195 ps F=aD ([.slice none 0 0,.int .i64 0,.int .i64 0]:List Value) (az (aH Tryz.prog 195) ps (([.slice none 0 0,.int .i64 0,.int .i64 0]:List Value).map V.lit) fun l=>F true (.agg l)):=bC zk zk zk
theorem VI {r:List (Nat×V)} {G:List V→Prop}:az (aH Tryz.prog 195) ((0,u)::r) us G=bZ u fun c=>aM c 1 (dm us 0 c fun l'=>az (aH Tryz.prog 195) r l' G):=au zk
theorem TY {r:List (Nat×V)} {G:List V→Prop}:az (aH Tryz.prog 195) ((1,u)::r) us G=bZ u fun c=>aM c 1 (dm us 1 c fun l'=>az (aH Tryz.prog 195) r l' G):=au zk
theorem VP {r:List (Nat×V)} {G:List V→Prop}:az (aH Tryz.prog 195) ((2,u)::r) us G=bZ u fun c=>aM c 1 (dm us 2 c fun l'=>az (aH Tryz.prog 195) r l' G):=au zk
theorem Tt:aN Tryz.prog 128 (.ref o z i' off) 1 F=F true (.ref o z i' (off+2)):=aq (x:=2) (ag:=false) (m:=1) zk
theorem afP:fr Tryz.prog 30 u σ F=gl u σ (none) F:=aV zk
theorem T0:aN Tryz.prog 128 (.ref o z i' off) 0 F=F true (.ref o z i' off):=aq (x:=0) (ag:=true) (m:=2) zk
theorem VM:aN Tryz.prog 126 (.ref o z i' off) 0 F=F true (.ref o z i' off):=aq (x:=0) (ag:=false) (m:=1) zk
theorem abE (h:0≤a∧a<L.length):cW Tryz.prog 30 (.row 1 (L.map f)) (.lit (.int i a)) F=F true (.rref 1 (L.map f) a.toNat 0):=lL (et:=4) zk zd h
theorem T7:aN Tryz.prog 126 (.ref o z i' off) 1 F=F true (.ref o z i' (off+1)):=aq (x:=1) (ag:=false) (m:=1) zk
theorem afA:eL Tryz.prog e .len [30] [.row m l] σ kv=fL (.row m l) fun τ v=>kv τ v σ:=ed zk
theorem Wg:aN Tryz.prog 167 (.ref o z i' off) 0 F=F true (.ref o z i' off):=aq (x:=0) (ag:=false) (m:=1) zk
theorem Vl:aN Tryz.prog 167 (.ref o z i' off) 1 F=F true (.ref o z i' (off+1)):=aq (x:=1) (ag:=false) (m:=1) zk
theorem VH:aN Tryz.prog 161 (.ref o z i' off) 1 F=F true (.ref o z i' (off+3)):=aq (x:=3) (ag:=false) (m:=1) zk
theorem U8:aN Tryz.prog 161 (.rref z l i' off) 1 F=F true (.rref z l i' (off+3)):=bE (x:=3) (ag:=false) (m:=1) zk
theorem acK:fr Tryz.prog 159 u σ F=gl u σ (none) F:=aV zk
theorem ae6:fr Tryz.prog 151 u σ F=gl u σ (some 2) F:=aV zk
theorem X6 (h:m<len):cW Tryz.prog 159 (.sl o 2 off len) (.lit (.int i (m:Int))) F=F true (.ref o 2 (off+m) 0):=kC (et:=151) zk h
theorem Tl (h:m<l.length):cW Tryz.prog 159 (.row 2 l) (.lit (.int i (m:Int))) F=F true (.rref 2 l m 0):=dM (et:=151) zk zd h
theorem Uz:aN Tryz.prog 161 (.ref o z i' off) 2 F=F true (.ref o z i' (off+4)):=aq (x:=4) (ag:=false) (m:=1) zk
theorem SZ:aN Tryz.prog 161 (.rref z l i' off) 2 F=F true (.rref z l i' (off+4)):=bE (x:=4) (ag:=false) (m:=1) zk
theorem acS:eL Tryz.prog e .len [159] [.row m l] σ kv=fL (.row m l) fun τ v=>kv τ v σ:=ed zk
theorem XF:eL Tryz.prog e .len [159] [.sl o m off len] σ kv=fL (.sl o m off len) fun τ v=>kv τ v σ:=lF zk
theorem aaQ:aN Tryz.prog 81 (.ref o z i' off) 0 F=F true (.ref o z i' off):=aq (x:=0) (ag:=false) (m:=1) zk
theorem Wx:aN Tryz.prog 81 (.rref z l i' off) 0 F=F true (.rref z l i' off):=bE (x:=0) (ag:=false) (m:=1) zk
theorem aaV:aN Tryz.prog 81 (.ref o z i' off) 1 F=F true (.ref o z i' (off+1)):=aq (x:=1) (ag:=false) (m:=1) zk
theorem aaY:aN Tryz.prog 81 (.rref z l i' off) 1 F=F true (.rref z l i' (off+1)):=bE (x:=1) (ag:=false) (m:=1) zk
theorem aax {ps:List (Nat×V)}:gV Tryz.prog 27 0 ps σ kv=fD 1 0 ps fun l=>aM l 0 (bK σ (.row 1 l) fun o σ'=>kv true (.sl o 1 0 0) σ'):=dp (et:=67) zk ⟨by kernel_rfl,by decide,by decide⟩
theorem Vm:mW Tryz.prog e 27 27 u v σ kv=iG v σ 1 fun m=>oD e 1 8 u m σ kv:=gT (et:=67) (ex:=67) (C:=[.int .u64 0]) zk zk zk zk zd rfl
theorem abh:aQ Tryz.prog .eql 27 (.row 1 l) (.lit (.slice none 0 0)) F=oJ .eql l.isEmpty F:=jD ⟨by kernel_rfl,by decide⟩
theorem Va {r:List (Nat×V)} {G:List V→Prop}:az (aH Tryz.prog 157) ((0,u)::r) us G=bZ u fun c=>aM c 1 (dm us 0 c fun l'=>az (aH Tryz.prog 157) r l' G):=au zk
theorem Ts {r:List (Nat×V)} {G:List V→Prop}:az (aH Tryz.prog 232) ((0,u)::r) us G=bZ u fun c=>aM c 1 (dm us 0 c fun l'=>az (aH Tryz.prog 232) r l' G):=au zk
theorem S9 {r:List (Nat×V)} {G:List V→Prop}:az (aH Tryz.prog 232) ((1,u)::r) us G=bZ u fun c=>aM c 1 (dm us 1 c fun l'=>az (aH Tryz.prog 232) r l' G):=au zk
theorem VX:aN Tryz.prog 195 (.ref o z i' off) 0 F=F true (.ref o z i' off):=aq (x:=0) (ag:=false) (m:=1) zk
theorem U9:aN Tryz.prog 195 (.rref z l i' off) 0 F=F true (.rref z l i' off):=bE (x:=0) (ag:=false) (m:=1) zk
theorem TU:aN Tryz.prog 195 (.ref o z i' off) 1 F=F true (.ref o z i' (off+1)):=aq (x:=1) (ag:=false) (m:=1) zk
theorem SN:aN Tryz.prog 195 (.rref z l i' off) 1 F=F true (.rref z l i' (off+1)):=bE (x:=1) (ag:=false) (m:=1) zk
theorem abY:fr Tryz.prog 222 u σ F=gl u σ (none) F:=aV zk
theorem ahR:fr Tryz.prog 61 u σ F=gl u σ (none) F:=aV zk
theorem abz:fr Tryz.prog 140 u σ F=gl u σ (some 2) F:=aV zk
theorem ab7:fM Tryz.prog 140 u v σ ks=bZ v fun c=>aM c 2 (iS u σ c ks):=bh zk
theorem UZ:aN Tryz.prog 140 (.ref o z i' off) 0 F=F true (.ref o z i' off):=aq (x:=0) (ag:=false) (m:=1) zk
theorem Vq:aN Tryz.prog 140 (.ref o z i' off) 1 F=F true (.ref o z i' (off+1)):=aq (x:=1) (ag:=false) (m:=1) zk
theorem acn:dP Tryz.prog 140 σ kv=aD ([.int .i64 0,.bool false]:List Value) (bK σ (.cells (([.int .i64 0,.bool false]:List Value).map V.lit)) fun o σ'=>kv true (.ref o 0 0 0) σ'):=bL zk
theorem abI:vN Tryz.prog 259 (.lit (.int i a)) F=F true (.lit (.iface 259 (.int i a))):=vW (k:=Go.IntKind.i64) zk
theorem Qa:p9 Tryz.prog e (.lit (.iface 259 (.int i a))) "tallymark/chain.good" us σ kv=dT Tryz.prog e 251 (.lit (.int i a)::us) σ kv:=lM zk
theorem Pw:p9 Tryz.prog e (.lit (.iface 259 (.int i a))) "tallymark/chain.step" us σ kv=dT Tryz.prog e 253 (.lit (.int i a)::us) σ kv:=lM zk
theorem abN:vN Tryz.prog 258 (.lit (.int i a)) F=F true (.lit (.iface 258 (.int i a))):=vW (k:=Go.IntKind.i64) zk
theorem Pm:p9 Tryz.prog e (.lit (.iface 258 (.int i a))) "tallymark/chain.good" us σ kv=dT Tryz.prog e 241 (.lit (.int i a)::us) σ kv:=lM zk
theorem OW:p9 Tryz.prog e (.lit (.iface 258 (.int i a))) "tallymark/chain.step" us σ kv=dT Tryz.prog e 243 (.lit (.int i a)::us) σ kv:=lM zk
theorem acd:vN Tryz.prog 257 (.lit (.int i a)) F=F true (.lit (.iface 257 (.int i a))):=vW (k:=Go.IntKind.i64) zk
theorem PG:p9 Tryz.prog e (.lit (.iface 257 (.int i a))) "tallymark/chain.good" us σ kv=dT Tryz.prog e 230 (.lit (.int i a)::us) σ kv:=lM zk
theorem Qr:p9 Tryz.prog e (.lit (.iface 257 (.int i a))) "tallymark/chain.step" us σ kv=dT Tryz.prog e 232 (.lit (.int i a)::us) σ kv:=lM zk
theorem TG (h:m<l.length):cW Tryz.prog 256 (.row 3 l) (.lit (.int i (m:Int))) F=F true (.rref 3 l m 0):=dM (et:=131) zk zd h
theorem acr:eL Tryz.prog e .len [256] [.row m l] σ kv=fL (.row m l) fun τ v=>kv τ v σ:=ed zk
theorem XB:aN Tryz.prog 34 (.ref o z i' off) 0 F=F true (.ref o z i' off):=aq (x:=0) (ag:=false) (m:=1) zk
theorem aes (h:0≤a∧a<len):cW Tryz.prog 171 (.sl o 2 off len) (.lit (.int i a)) F=F true (.ref o 2 (off+a.toNat) 0):=vV (et:=176) zk h
theorem YC (h:m<len):cW Tryz.prog 171 (.sl o 2 off len) (.lit (.int i (m:Int))) F=F true (.ref o 2 (off+m) 0):=kC (et:=176) zk h
theorem UM (h:m<l.length):cW Tryz.prog 171 (.row 2 l) (.lit (.int i (m:Int))) F=F true (.rref 2 l m 0):=dM (et:=176) zk zd h
theorem abU:fr Tryz.prog 176 u σ F=gl u σ (some 2) F:=aV zk
theorem WM {vs:List V}:aQ Tryz.prog .neq 176 (.agg us) (.agg vs) F=kB [true,true] us vs fun r=>dB (zI .neq r) F:=gz zk
theorem ado:eL Tryz.prog e .len [171] [.row m l] σ kv=fL (.row m l) fun τ v=>kv τ v σ:=ed zk
theorem Zr:eL Tryz.prog e .len [171] [.sl o m off len] σ kv=fL (.sl o m off len) fun τ v=>kv τ v σ:=lF zk
theorem Uy:aN Tryz.prog 165 (.ref o z i' off) 0 F=F true (.ref o z i' off):=aq (x:=0) (ag:=true) (m:=5) zk
theorem U7:aN Tryz.prog 165 (.rref z l i' off) 0 F=F true (.rref z l i' off):=bE (x:=0) (ag:=true) (m:=5) zk
theorem af7:fr Tryz.prog 88 u σ F=gl u σ (some 5) F:=aV zk
theorem adL {vs:List V}:aQ Tryz.prog .eql 88 (.agg us) (.agg vs) F=kB [true,true,true,true,true] us vs fun r=>dB (zI .eql r) F:=gz zk
theorem TE:aN Tryz.prog 169 (.ref o z i' off) 1 F=F true (.ref o z i' (off+2)):=aq (x:=2) (ag:=false) (m:=1) zk
theorem agh:fr Tryz.prog 37 u σ F=gl u σ (none) F:=aV zk
theorem Zs {vs:List V}:aQ Tryz.prog .neq 151 (.agg us) (.agg vs) F=kB [true,true] us vs fun r=>dB (zI .neq r) F:=gz zk
theorem VA {ps:List (Nat×V)}:gV Tryz.prog 171 0 ps σ kv=fD 2 0 ps fun l=>aM l 0 (bK σ (.row 2 l) fun o σ'=>kv true (.sl o 2 0 0) σ'):=dp (et:=176) zk ⟨by kernel_rfl,by decide,by decide⟩
theorem PX:mW Tryz.prog e 171 171 u v σ kv=iG v σ 2 fun m=>oD e 2 16 u m σ kv:=gT (et:=176) (ex:=176) (C:=[.int .u64 0,.int .i64 0]) zk zk zk zk zd rfl
theorem WW:aQ Tryz.prog .eql 171 (.row 2 l) (.lit (.slice none 0 0)) F=oJ .eql l.isEmpty F:=jD ⟨by kernel_rfl,by decide⟩
theorem Uk {ps:List (Nat×V)}:gV Tryz.prog 163 0 ps σ kv=fD 3 0 ps fun l=>aM l 0 (bK σ (.row 3 l) fun o σ'=>kv true (.sl o 3 0 0) σ'):=dp (et:=169) zk ⟨by kernel_rfl,by decide,by decide⟩
theorem PS:mW Tryz.prog e 163 163 u v σ kv=iG v σ 3 fun m=>oD e 3 24 u m σ kv:=gT (et:=169) (ex:=169) (C:=[.int .u64 0,.int .u64 0,.pointer none]) zk zk zk zk zd rfl
theorem YD:aQ Tryz.prog .eql 163 (.row 3 l) (.lit (.slice none 0 0)) F=oJ .eql l.isEmpty F:=jD ⟨by kernel_rfl,by decide⟩
theorem TK {ps:List (Nat×V)}:gV Tryz.prog 159 0 ps σ kv=fD 2 0 ps fun l=>aM l 0 (bK σ (.row 2 l) fun o σ'=>kv true (.sl o 2 0 0) σ'):=dp (et:=151) zk ⟨by kernel_rfl,by decide,by decide⟩
theorem Qf:mW Tryz.prog e 159 159 u v σ kv=iG v σ 2 fun m=>oD e 2 16 u m σ kv:=gT (et:=151) (ex:=151) (C:=[.int .i64 0,.int .i64 0]) zk zk zk zk zd rfl
theorem Yz:aQ Tryz.prog .eql 159 (.row 2 l) (.lit (.slice none 0 0)) F=oJ .eql l.isEmpty F:=jD ⟨by kernel_rfl,by decide⟩
theorem Uu:aN Tryz.prog 173 (.ref o z i' off) 1 F=F true (.ref o z i' (off+3)):=aq (x:=3) (ag:=false) (m:=1) zk
theorem UD:aN Tryz.prog 173 (.rref z l i' off) 1 F=F true (.rref z l i' (off+3)):=bE (x:=3) (ag:=false) (m:=1) zk
theorem abH:fr Tryz.prog 171 u σ F=gl u σ (none) F:=aV zk
theorem acx {ps:List (Nat×V)}:dO Tryz.prog 176 ps F=aD ([.int .u64 0,.int .i64 0]:List Value) (az (aH Tryz.prog 176) ps (([.int .u64 0,.int .i64 0]:List Value).map V.lit) fun l=>F true (.agg l)):=bC zk zk zk
theorem Tz {r:List (Nat×V)} {G:List V→Prop}:az (aH Tryz.prog 176) ((0,u)::r) us G=bZ u fun c=>aM c 1 (dm us 0 c fun l'=>az (aH Tryz.prog 176) r l' G):=au zk
theorem Tb {r:List (Nat×V)} {G:List V→Prop}:az (aH Tryz.prog 176) ((1,u)::r) us G=bZ u fun c=>aM c 1 (dm us 1 c fun l'=>az (aH Tryz.prog 176) r l' G):=au zk
theorem aet:fM Tryz.prog 176 u v σ ks=bZ v fun c=>aM c 2 (iS u σ c ks):=bh zk
theorem S8:aN Tryz.prog 173 (.ref o z i' off) 2 F=F true (.ref o z i' (off+4)):=aq (x:=4) (ag:=false) (m:=1) zk
theorem UT:aN Tryz.prog 173 (.rref z l i' off) 2 F=F true (.rref z l i' (off+4)):=bE (x:=4) (ag:=false) (m:=1) zk
theorem agA:fr Tryz.prog 93 u σ F=gl u σ (some 3) F:=aV zk
theorem aeq {ps:List (Nat×V)}:dO Tryz.prog 169 ps F=aD ([.int .u64 0,.int .u64 0,.pointer none]:List Value) (az (aH Tryz.prog 169) ps (([.int .u64 0,.int .u64 0,.pointer none]:List Value).map V.lit) fun l=>F true (.agg l)):=bC zk zk zk
theorem Ut {r:List (Nat×V)} {G:List V→Prop}:az (aH Tryz.prog 169) ((0,u)::r) us G=bZ u fun c=>aM c 2 (dm us 0 c fun l'=>az (aH Tryz.prog 169) r l' G):=au zk
theorem UK {r:List (Nat×V)} {G:List V→Prop}:az (aH Tryz.prog 169) ((1,u)::r) us G=bZ u fun c=>aM c 1 (dm us 2 c fun l'=>az (aH Tryz.prog 169) r l' G):=au zk
theorem S3 {ps:List (Nat×V)}:gV Tryz.prog 163 1 ps σ kv=fD 3 0 ps fun l=>aM l 1 (bK σ (.row 3 l) fun o σ'=>kv true (.sl o 3 0 1) σ'):=dp (et:=169) zk ⟨by kernel_rfl,by decide,by decide⟩
theorem adf:fM Tryz.prog 163 u v σ ks=bZ v fun c=>aM c 1 (iS u σ c ks):=bh zk
theorem aaw:aN Tryz.prog 88 (.ref o z i' off) 2 F=F true (.ref o z i' (off+2)):=aq (x:=2) (ag:=true) (m:=3) zk
theorem Yd:aN Tryz.prog 88 (.ref o z i' off) 1 F=F true (.ref o z i' (off+1)):=aq (x:=1) (ag:=false) (m:=1) zk
theorem X5 (h:m<2) (hl:us.length=2):qb Tryz.prog 253 (.agg us) (.lit (.int i (m:Int))) F=mq us m fun x=>F true x:=QR (et:=252) zk zk hl h
theorem adO {ps:List (Nat×V)}:dO Tryz.prog 253 ps F=aD ([.pointer none,.pointer none]:List Value) (az (aH Tryz.prog 253) ps (([.pointer none,.pointer none]:List Value).map V.lit) fun l=>F true (.agg l)):=bC zk zk zk
theorem UR {r:List (Nat×V)} {G:List V→Prop}:az (aH Tryz.prog 253) ((0,u)::r) us G=bZ u fun c=>aM c 1 (dm us 0 c fun l'=>az (aH Tryz.prog 253) r l' G):=au zk
theorem Wf {r:List (Nat×V)} {G:List V→Prop}:az (aH Tryz.prog 253) ((1,u)::r) us G=bZ u fun c=>aM c 1 (dm us 1 c fun l'=>az (aH Tryz.prog 253) r l' G):=au zk
theorem adT:dP Tryz.prog 167 σ kv=aD ([.int .u64 0,.int .u64 0]:List Value) (bK σ (.cells (([.int .u64 0,.int .u64 0]:List Value).map V.lit)) fun o σ'=>kv true (.ref o 0 0 0) σ'):=bL zk
theorem aaF:aN Tryz.prog 88 (.ref o z i' off) 0 F=F true (.ref o z i' off):=aq (x:=0) (ag:=false) (m:=1) zk
theorem acb {ps:List (Nat×V)}:dO Tryz.prog 165 ps F=aD ([.int .i64 0,.int .i64 0,.int .i64 0,.int .i64 0,.int .i64 0,.slice none 0 0,.int .i64 0]:List Value) (az (aH Tryz.prog 165) ps (([.int .i64 0,.int .i64 0,.int .i64 0,.int .i64 0,.int .i64 0,.slice none 0 0,.int .i64 0]:List Value).map V.lit) fun l=>F true (.agg l)):=bC zk zk zk
theorem T5 {r:List (Nat×V)} {G:List V→Prop}:az (aH Tryz.prog 165) ((0,u)::r) us G=bZ u fun c=>aM c 5 (dm us 0 c fun l'=>az (aH Tryz.prog 165) r l' G):=au zk
theorem UE {r:List (Nat×V)} {G:List V→Prop}:az (aH Tryz.prog 165) ((2,u)::r) us G=bZ u fun c=>aM c 1 (dm us 6 c fun l'=>az (aH Tryz.prog 165) r l' G):=au zk
theorem ZW:aN Tryz.prog 81 (.ref o z i' off) 2 F=F true (.ref o z i' (off+2)):=aq (x:=2) (ag:=false) (m:=1) zk
theorem Wk:aN Tryz.prog 161 (.ref o z i' off) 3 F=F true (.ref o z i' (off+5)):=aq (x:=5) (ag:=false) (m:=1) zk
theorem VF:aN Tryz.prog 161 (.rref z l i' off) 3 F=F true (.rref z l i' (off+5)):=bE (x:=5) (ag:=false) (m:=1) zk
theorem US:aN Tryz.prog 112 (.ref o z i' off) 1 F=F true (.ref o z i' (off+1)):=aq (x:=1) (ag:=false) (m:=1) zk
theorem agN:fM Tryz.prog 45 u v σ ks=bZ v fun c=>aM c 1 (iS u σ c ks):=bh zk
theorem Vw:aN Tryz.prog 112 (.ref o z i' off) 0 F=F true (.ref o z i' off):=aq (x:=0) (ag:=false) (m:=1) zk
theorem abT:fr Tryz.prog 109 u σ F=gl u σ (none) F:=aV zk
theorem ag7:fr Tryz.prog 45 u σ F=gl u σ (none) F:=aV zk
theorem afz:fr Tryz.prog 36 u σ F=gl u σ (some 3) F:=aV zk
theorem agk:dP Tryz.prog 36 σ kv=aD ([.int .i64 0,.int .i64 0,.bool false]:List Value) (bK σ (.cells (([.int .i64 0,.int .i64 0,.bool false]:List Value).map V.lit)) fun o σ'=>kv true (.ref o 0 0 0) σ'):=bL zk
theorem ahw:fM Tryz.prog 36 u v σ ks=bZ v fun c=>aM c 3 (iS u σ c ks):=bh zk
theorem ahP {ps:List (Nat×V)}:dO Tryz.prog 36 ps F=aD ([.int .i64 0,.int .i64 0,.bool false]:List Value) (az (aH Tryz.prog 36) ps (([.int .i64 0,.int .i64 0,.bool false]:List Value).map V.lit) fun l=>F true (.agg l)):=bC zk zk zk
theorem YF {r:List (Nat×V)} {G:List V→Prop}:az (aH Tryz.prog 36) ((0,u)::r) us G=bZ u fun c=>aM c 1 (dm us 0 c fun l'=>az (aH Tryz.prog 36) r l' G):=au zk
theorem Yi {r:List (Nat×V)} {G:List V→Prop}:az (aH Tryz.prog 36) ((1,u)::r) us G=bZ u fun c=>aM c 1 (dm us 1 c fun l'=>az (aH Tryz.prog 36) r l' G):=au zk
theorem YA {r:List (Nat×V)} {G:List V→Prop}:az (aH Tryz.prog 36) ((2,u)::r) us G=bZ u fun c=>aM c 1 (dm us 2 c fun l'=>az (aH Tryz.prog 36) r l' G):=au zk
theorem ahW {ps:List (Nat×V)}:dO Tryz.prog 34 ps F=aD ([.int .i64 0,.int .i64 0,.int .i64 0]:List Value) (az (aH Tryz.prog 34) ps (([.int .i64 0,.int .i64 0,.int .i64 0]:List Value).map V.lit) fun l=>F true (.agg l)):=bC zk zk zk
theorem aai {r:List (Nat×V)} {G:List V→Prop}:az (aH Tryz.prog 34) ((0,u)::r) us G=bZ u fun c=>aM c 1 (dm us 0 c fun l'=>az (aH Tryz.prog 34) r l' G):=au zk
theorem Z0 {r:List (Nat×V)} {G:List V→Prop}:az (aH Tryz.prog 34) ((1,u)::r) us G=bZ u fun c=>aM c 1 (dm us 1 c fun l'=>az (aH Tryz.prog 34) r l' G):=au zk
theorem aaa {r:List (Nat×V)} {G:List V→Prop}:az (aH Tryz.prog 34) ((2,u)::r) us G=bZ u fun c=>aM c 1 (dm us 2 c fun l'=>az (aH Tryz.prog 34) r l' G):=au zk
theorem ahf:fM Tryz.prog 34 u v σ ks=bZ v fun c=>aM c 3 (iS u σ c ks):=bh zk
theorem agu:dP Tryz.prog 34 σ kv=aD ([.int .i64 0,.int .i64 0,.int .i64 0]:List Value) (bK σ (.cells (([.int .i64 0,.int .i64 0,.int .i64 0]:List Value).map V.lit)) fun o σ'=>kv true (.ref o 0 0 0) σ'):=bL zk
theorem Wh (h:0≤a∧a≤18446744073709551615):gC Tryz.prog 5 67 (.lit (.int i a)) σ F=F true (.lit (.int .u64 a)):=(eQ zk).trans (kQ zk zk h)
theorem Zz:og Tryz.prog 5 67 u σ kv=gC Tryz.prog 5 67 u σ fun τ u=>kv τ u σ:=gD zk
theorem UH:aN Tryz.prog 201 (.ref o z i' off) 1 F=F true (.ref o z i' (off+1)):=aq (x:=1) (ag:=false) (m:=1) zk
theorem Uq:aN Tryz.prog 201 (.rref z l i' off) 1 F=F true (.rref z l i' (off+1)):=bE (x:=1) (ag:=false) (m:=1) zk
theorem U2:aN Tryz.prog 201 (.ref o z i' off) 0 F=F true (.ref o z i' off):=aq (x:=0) (ag:=false) (m:=1) zk
theorem SW:aN Tryz.prog 201 (.rref z l i' off) 0 F=F true (.rref z l i' off):=bE (x:=0) (ag:=false) (m:=1) zk
theorem agr:fr Tryz.prog 47 u σ F=gl u σ (none) F:=aV zk
theorem Yy {P:Program} {t:TypeId}:aQ P .and t (.lit (.int .u8 a)) (.lit (.int .u8 1)) F=F true (.lit (.int .u8 (a%2))):=dt 1 zd zd zd
theorem WI {ps:List (Nat×V)}:gV Tryz.prog 47 0 ps σ kv=fD 1 0 ps fun l=>aM l 0 (bK σ (.row 1 l) fun o σ'=>kv true (.sl o 1 0 0) σ'):=dp (et:=5) zk ⟨by kernel_rfl,by decide,by decide⟩
theorem U3:mW Tryz.prog e 47 47 u v σ kv=iG v σ 1 fun m=>oD e 1 1 u m σ kv:=gT (et:=5) (ex:=5) (C:=[.int .u8 0]) zk zk zk zk zd rfl
theorem adM:aQ Tryz.prog .eql 47 (.row 1 l) (.lit (.slice none 0 0)) F=oJ .eql l.isEmpty F:=jD ⟨by kernel_rfl,by decide⟩
theorem KG {P:Program} {t:TypeId}:aQ P .shr t (.lit (.int .u64 a)) (.lit (.int .u64 7)) F=F true (.lit (.int .u64 (a/128))):=by rw[fF zd];rfl
theorem Ys:aN Tryz.prog 34 (.ref o z i' off) 2 F=F true (.ref o z i' (off+2)):=aq (x:=2) (ag:=false) (m:=1) zk
theorem Zq:aN Tryz.prog 34 (.ref o z i' off) 1 F=F true (.ref o z i' (off+1)):=aq (x:=1) (ag:=false) (m:=1) zk
theorem Ta (h:0≤a∧a≤255):gC Tryz.prog 67 5 (.lit (.int i a)) σ F=F true (.lit (.int .u8 a)):=(eQ zk).trans (Me zk zk h)
theorem Yk:og Tryz.prog 67 5 u σ kv=gC Tryz.prog 67 5 u σ fun τ u=>kv τ u σ:=gD zk
theorem Ku {P:Program} {t:TypeId}:aQ P .shr t (.lit (.int .u64 a)) (.lit (.int .u64 8)) F=F true (.lit (.int .u64 (a/256))):=by rw[fF zd];rfl
theorem GO {P:Program} {t:TypeId}:aQ P .shr t (.lit (.int .u64 a)) (.lit (.int .u64 16)) F=F true (.lit (.int .u64 (a/65536))):=by rw[fF zd];rfl
theorem Vk:aN Tryz.prog 173 (.rref z l i' off) 0 F=F true (.rref z l i' off):=bE (x:=0) (ag:=true) (m:=3) zk
theorem af3:fM Tryz.prog 93 u v σ ks=bZ v fun c=>aM c 3 (iS u σ c ks):=bh zk
theorem ahL:dP Tryz.prog 93 σ kv=aD ([.int .i64 0,.int .i64 0,.int .i64 0]:List Value) (bK σ (.cells (([.int .i64 0,.int .i64 0,.int .i64 0]:List Value).map V.lit)) fun o σ'=>kv true (.ref o 0 0 0) σ'):=bL zk
theorem afg:fM Tryz.prog 88 u v σ ks=bZ v fun c=>aM c 5 (iS u σ c ks):=bh zk
theorem afF:dP Tryz.prog 88 σ kv=aD ([.int .i64 0,.int .i64 0,.int .i64 0,.int .i64 0,.int .i64 0]:List Value) (bK σ (.cells (([.int .i64 0,.int .i64 0,.int .i64 0,.int .i64 0,.int .i64 0]:List Value).map V.lit)) fun o σ'=>kv true (.ref o 0 0 0) σ'):=bL zk
theorem agq:fM Tryz.prog 81 u v σ ks=bZ v fun c=>aM c 3 (iS u σ c ks):=bh zk
theorem afc:dP Tryz.prog 81 σ kv=aD ([.int .i64 0,.int .i64 0,.int .i64 0]:List Value) (bK σ (.cells (([.int .i64 0,.int .i64 0,.int .i64 0]:List Value).map V.lit)) fun o σ'=>kv true (.ref o 0 0 0) σ'):=bL zk
theorem ZM:aN Tryz.prog 58 (.ref o z i' off) 1 F=F true (.ref o z i' (off+1)):=aq (x:=1) (ag:=true) (m:=3) zk
theorem Xm:aN Tryz.prog 58 (.rref z l i' off) 1 F=F true (.rref z l i' (off+1)):=bE (x:=1) (ag:=true) (m:=3) zk
theorem TB {ps:List (Nat×V)}:gV Tryz.prog 100 3 ps σ kv=fD 1 0 ps fun l=>aM l 3 (bK σ (.row 1 l) fun o σ'=>kv true (.sl o 1 0 3) σ'):=dp (et:=3) zk ⟨by kernel_rfl,by decide,by decide⟩
theorem Yj:aN Tryz.prog 98 (.ref o z i' off) 1 F=F true (.ref o z i' (off+1)):=aq (x:=1) (ag:=false) (m:=1) zk
theorem WA:aN Tryz.prog 98 (.ref o z i' off) 0 F=F true (.ref o z i' off):=aq (x:=0) (ag:=false) (m:=1) zk
theorem aaI:aN Tryz.prog 98 (.rref z l i' off) 0 F=F true (.rref z l i' off):=bE (x:=0) (ag:=false) (m:=1) zk
theorem ajd:fM Tryz.prog 5 u v σ ks=bZ v fun c=>aM c 1 (iS u σ c ks):=bh zk
theorem YO {ps:List (Nat×V)}:gV Tryz.prog 47 1 ps σ kv=fD 1 0 ps fun l=>aM l 1 (bK σ (.row 1 l) fun o σ'=>kv true (.sl o 1 0 1) σ'):=dp (et:=5) zk ⟨by kernel_rfl,by decide,by decide⟩
theorem ahu:fM Tryz.prog 47 u v σ ks=bZ v fun c=>aM c 1 (iS u σ c ks):=bh zk
theorem ZL:aN Tryz.prog 36 (.ref o z i' off) 1 F=F true (.ref o z i' (off+1)):=aq (x:=1) (ag:=false) (m:=1) zk
theorem Z9:aN Tryz.prog 36 (.ref o z i' off) 0 F=F true (.ref o z i' off):=aq (x:=0) (ag:=false) (m:=1) zk
theorem Zg:aN Tryz.prog 36 (.ref o z i' off) 2 F=F true (.ref o z i' (off+2)):=aq (x:=2) (ag:=false) (m:=1) zk
theorem aaC:aN Tryz.prog 93 (.ref o z i' off) 2 F=F true (.ref o z i' (off+2)):=aq (x:=2) (ag:=false) (m:=1) zk
theorem Z7:aN Tryz.prog 93 (.ref o z i' off) 0 F=F true (.ref o z i' off):=aq (x:=0) (ag:=false) (m:=1) zk
theorem aa4:aN Tryz.prog 93 (.ref o z i' off) 1 F=F true (.ref o z i' (off+1)):=aq (x:=1) (ag:=false) (m:=1) zk
theorem XN:aN Tryz.prog 29 (.ref o z i' off) 3 F=F true (.ref o z i' (off+5)):=aq (x:=5) (ag:=false) (m:=1) zk
theorem aga {ps:List (Nat×V)}:dO Tryz.prog 58 ps F=aD ([.pointer none,.int .i64 0,.int .i64 0,.int .i64 0]:List Value) (az (aH Tryz.prog 58) ps (([.pointer none,.int .i64 0,.int .i64 0,.int .i64 0]:List Value).map V.lit) fun l=>F true (.agg l)):=bC zk zk zk
theorem Xq {r:List (Nat×V)} {G:List V→Prop}:az (aH Tryz.prog 58) ((0,u)::r) us G=bZ u fun c=>aM c 1 (dm us 0 c fun l'=>az (aH Tryz.prog 58) r l' G):=au zk
theorem Ze {r:List (Nat×V)} {G:List V→Prop}:az (aH Tryz.prog 58) ((1,u)::r) us G=bZ u fun c=>aM c 3 (dm us 1 c fun l'=>az (aH Tryz.prog 58) r l' G):=au zk
theorem ahH:fr Tryz.prog 71 u σ F=gl u σ (some 3) F:=aV zk
theorem agl:fM Tryz.prog 71 u v σ ks=bZ v fun c=>aM c 3 (iS u σ c ks):=bh zk
theorem aaG:aN Tryz.prog 71 (.ref o z i' off) 2 F=F true (.ref o z i' (off+2)):=aq (x:=2) (ag:=false) (m:=1) zk
theorem ZU:aN Tryz.prog 71 (.ref o z i' off) 0 F=F true (.ref o z i' off):=aq (x:=0) (ag:=false) (m:=1) zk
theorem RG {P:Program} {t:TypeId}:aQ P .and t (.lit (.int .i64 a)) (.lit (.int .i64 15)) F=F true (.lit (.int .i64 (a%16))):=dt 4 zd zd zd
theorem Xv:aN Tryz.prog 71 (.ref o z i' off) 1 F=F true (.ref o z i' (off+1)):=aq (x:=1) (ag:=false) (m:=1) zk
theorem Yf:aN Tryz.prog 23 (.ref o z i' off) 2 F=F true (.ref o z i' (off+2)):=aq (x:=2) (ag:=false) (m:=1) zk
theorem TL {P:Program} {t:TypeId}:aQ P .and t (.lit (.int .i64 a)) (.lit (.int .i64 7)) F=F true (.lit (.int .i64 (a%8))):=dt 3 zd zd zd
theorem Z4:aN Tryz.prog 23 (.ref o z i' off) 1 F=F true (.ref o z i' (off+1)):=aq (x:=1) (ag:=false) (m:=1) zk
theorem Wd {P:Program} {t:TypeId}:aQ P .and t (.lit (.int .i64 a)) (.lit (.int .i64 3)) F=F true (.lit (.int .i64 (a%4))):=dt 2 zd zd zd
theorem Zp:aN Tryz.prog 23 (.ref o z i' off) 0 F=F true (.ref o z i' off):=aq (x:=0) (ag:=false) (m:=1) zk
theorem agj:dP Tryz.prog 71 σ kv=aD ([.int .i64 0,.int .i64 0,.bool false]:List Value) (bK σ (.cells (([.int .i64 0,.int .i64 0,.bool false]:List Value).map V.lit)) fun o σ'=>kv true (.ref o 0 0 0) σ'):=bL zk
theorem Jm {P:Program} {t:TypeId}:aQ P .shl t (.lit (.int .u64 a)) (.lit (.int .u64 1)) F=F true (.lit (.int .u64 (IntKind.wrap .u64 (a*2)))):=by rw[oc zd];rfl
theorem ZK:aN Tryz.prog 58 (.ref o z i' off) 0 F=F true (.ref o z i' off):=aq (x:=0) (ag:=false) (m:=1) zk
theorem Xy:aN Tryz.prog 58 (.rref z l i' off) 0 F=F true (.rref z l i' off):=bE (x:=0) (ag:=false) (m:=1) zk
theorem af0:fr Tryz.prog 56 u σ F=gl u σ (none) F:=aV zk
theorem af6:dP Tryz.prog 98 σ kv=aD ([.slice none 0 0,.int .i64 0]:List Value) (bK σ (.cells (([.slice none 0 0,.int .i64 0]:List Value).map V.lit)) fun o σ'=>kv true (.ref o 0 0 0) σ'):=bL zk
theorem aeF {ps:List (Nat×V)}:dO Tryz.prog 140 ps F=aD ([.int .i64 0,.bool false]:List Value) (az (aH Tryz.prog 140) ps (([.int .i64 0,.bool false]:List Value).map V.lit) fun l=>F true (.agg l)):=bC zk zk zk
theorem TA {r:List (Nat×V)} {G:List V→Prop}:az (aH Tryz.prog 140) ((0,u)::r) us G=bZ u fun c=>aM c 1 (dm us 0 c fun l'=>az (aH Tryz.prog 140) r l' G):=au zk
theorem S1 {r:List (Nat×V)} {G:List V→Prop}:az (aH Tryz.prog 140) ((1,u)::r) us G=bZ u fun c=>aM c 1 (dm us 1 c fun l'=>az (aH Tryz.prog 140) r l' G):=au zk
theorem acO:dP Tryz.prog 222 σ kv=aD ([.nilIface]:List Value) (bK σ (.cells (([.nilIface]:List Value).map V.lit)) fun o σ'=>kv true (.ref o 0 0 0) σ'):=bL zk
theorem abl:fM Tryz.prog 222 u v σ ks=bZ v fun c=>aM c 1 (iS u σ c ks):=bh zk
theorem aba {ps:List (Nat×V)}:dO Tryz.prog 143 ps F=aD ([.int .i64 0,.int .i64 0,.int .i64 0]:List Value) (az (aH Tryz.prog 143) ps (([.int .i64 0,.int .i64 0,.int .i64 0]:List Value).map V.lit) fun l=>F true (.agg l)):=bC zk zk zk
theorem Ux {r:List (Nat×V)} {G:List V→Prop}:az (aH Tryz.prog 143) ((0,u)::r) us G=bZ u fun c=>aM c 1 (dm us 0 c fun l'=>az (aH Tryz.prog 143) r l' G):=au zk
theorem VN {r:List (Nat×V)} {G:List V→Prop}:az (aH Tryz.prog 143) ((1,u)::r) us G=bZ u fun c=>aM c 1 (dm us 1 c fun l'=>az (aH Tryz.prog 143) r l' G):=au zk
theorem U1 {r:List (Nat×V)} {G:List V→Prop}:az (aH Tryz.prog 143) ((2,u)::r) us G=bZ u fun c=>aM c 1 (dm us 2 c fun l'=>az (aH Tryz.prog 143) r l' G):=au zk
theorem abu:fM Tryz.prog 143 u v σ ks=bZ v fun c=>aM c 3 (iS u σ c ks):=bh zk
theorem acJ:dP Tryz.prog 143 σ kv=aD ([.int .i64 0,.int .i64 0,.int .i64 0]:List Value) (bK σ (.cells (([.int .i64 0,.int .i64 0,.int .i64 0]:List Value).map V.lit)) fun o σ'=>kv true (.ref o 0 0 0) σ'):=bL zk
theorem acU {ps:List (Nat×V)}:dO Tryz.prog 131 ps F=aD ([.int .i64 0,.int .i64 0,.bool false]:List Value) (az (aH Tryz.prog 131) ps (([.int .i64 0,.int .i64 0,.bool false]:List Value).map V.lit) fun l=>F true (.agg l)):=bC zk zk zk
theorem VV {r:List (Nat×V)} {G:List V→Prop}:az (aH Tryz.prog 131) ((0,u)::r) us G=bZ u fun c=>aM c 1 (dm us 0 c fun l'=>az (aH Tryz.prog 131) r l' G):=au zk
theorem Vp {r:List (Nat×V)} {G:List V→Prop}:az (aH Tryz.prog 131) ((1,u)::r) us G=bZ u fun c=>aM c 1 (dm us 1 c fun l'=>az (aH Tryz.prog 131) r l' G):=au zk
theorem Vu {r:List (Nat×V)} {G:List V→Prop}:az (aH Tryz.prog 131) ((2,u)::r) us G=bZ u fun c=>aM c 1 (dm us 2 c fun l'=>az (aH Tryz.prog 131) r l' G):=au zk
theorem UL {ps:List (Nat×V)}:gV Tryz.prog 256 1 ps σ kv=fD 3 0 ps fun l=>aM l 1 (bK σ (.row 3 l) fun o σ'=>kv true (.sl o 3 0 1) σ'):=dp (et:=131) zk ⟨by kernel_rfl,by decide,by decide⟩
theorem ad7 {ps:List (Nat×V)}:dO Tryz.prog 134 ps F=aD ([.int .i64 0,.int .i64 0]:List Value) (az (aH Tryz.prog 134) ps (([.int .i64 0,.int .i64 0]:List Value).map V.lit) fun l=>F true (.agg l)):=bC zk zk zk
theorem Te {r:List (Nat×V)} {G:List V→Prop}:az (aH Tryz.prog 134) ((0,u)::r) us G=bZ u fun c=>aM c 1 (dm us 0 c fun l'=>az (aH Tryz.prog 134) r l' G):=au zk
theorem Un {r:List (Nat×V)} {G:List V→Prop}:az (aH Tryz.prog 134) ((1,u)::r) us G=bZ u fun c=>aM c 1 (dm us 1 c fun l'=>az (aH Tryz.prog 134) r l' G):=au zk
theorem adI:fM Tryz.prog 134 u v σ ks=bZ v fun c=>aM c 2 (iS u σ c ks):=bh zk
theorem aeE:dP Tryz.prog 134 σ kv=aD ([.int .i64 0,.int .i64 0]:List Value) (bK σ (.cells (([.int .i64 0,.int .i64 0]:List Value).map V.lit)) fun o σ'=>kv true (.ref o 0 0 0) σ'):=bL zk
theorem YR (h:m<l.length):cW Tryz.prog 76 (.row 3 l) (.lit (.int i (m:Int))) F=F true (.rref 3 l m 0):=dM (et:=36) zk zd h
theorem afK:eL Tryz.prog e .len [76] [.row m l] σ kv=fL (.row m l) fun τ v=>kv τ v σ:=ed zk
theorem aem:eL Tryz.prog e .len [76] [.sl o m off len] σ kv=fL (.sl o m off len) fun τ v=>kv τ v σ:=lF zk
theorem Zy {ps:List (Nat×V)}:gV Tryz.prog 30 0 ps σ kv=fD 1 0 ps fun l=>aM l 0 (bK σ (.row 1 l) fun o σ'=>kv true (.sl o 1 0 0) σ'):=dp (et:=4) zk ⟨by kernel_rfl,by decide,by decide⟩
theorem Tm:mW Tryz.prog e 30 30 u v σ kv=iG v σ 1 fun m=>oD e 1 1 u m σ kv:=gT (et:=4) (ex:=4) (C:=[.bool false]) zk zk zk zk zd rfl
theorem adB:aQ Tryz.prog .eql 30 (.row 1 l) (.lit (.slice none 0 0)) F=oJ .eql l.isEmpty F:=jD ⟨by kernel_rfl,by decide⟩
theorem aej {vs:List V}:aQ Tryz.prog .eql 93 (.agg us) (.agg vs) F=kB [true,true,true] us vs fun r=>dB (zI .eql r) F:=gz zk
theorem S4:aN Tryz.prog 165 (.ref o z i' off) 2 F=F true (.ref o z i' (off+6)):=aq (x:=6) (ag:=false) (m:=1) zk
theorem VG:aN Tryz.prog 165 (.rref z l i' off) 2 F=F true (.rref z l i' (off+6)):=bE (x:=6) (ag:=false) (m:=1) zk
theorem abV {vs:List V}:aQ Tryz.prog .eql 81 (.agg us) (.agg vs) F=kB [true,true,true] us vs fun r=>dB (zI .eql r) F:=gz zk
theorem adW {vs:List V}:aQ Tryz.prog .eql 34 (.agg us) (.agg vs) F=kB [true,true,true] us vs fun r=>dB (zI .eql r) F:=gz zk
theorem adN {ps:List (Nat×V)}:dO Tryz.prog 173 ps F=aD ([.int .i64 0,.int .i64 0,.int .i64 0,.slice none 0 0,.int .i64 0]:List Value) (az (aH Tryz.prog 173) ps (([.int .i64 0,.int .i64 0,.int .i64 0,.slice none 0 0,.int .i64 0]:List Value).map V.lit) fun l=>F true (.agg l)):=bC zk zk zk
theorem TN {r:List (Nat×V)} {G:List V→Prop}:az (aH Tryz.prog 173) ((0,u)::r) us G=bZ u fun c=>aM c 3 (dm us 0 c fun l'=>az (aH Tryz.prog 173) r l' G):=au zk
theorem VW {r:List (Nat×V)} {G:List V→Prop}:az (aH Tryz.prog 173) ((1,u)::r) us G=bZ u fun c=>aM c 1 (dm us 3 c fun l'=>az (aH Tryz.prog 173) r l' G):=au zk
theorem Uc {r:List (Nat×V)} {G:List V→Prop}:az (aH Tryz.prog 173) ((2,u)::r) us G=bZ u fun c=>aM c 1 (dm us 4 c fun l'=>az (aH Tryz.prog 173) r l' G):=au zk
theorem afu:fM Tryz.prog 37 u v σ ks=bZ v fun c=>aM c 1 (iS u σ c ks):=bh zk
theorem ad4:fr Tryz.prog 165 u σ F=gl u σ (some 7) F:=aV zk
theorem adv:dP Tryz.prog 165 σ kv=aD ([.int .i64 0,.int .i64 0,.int .i64 0,.int .i64 0,.int .i64 0,.slice none 0 0,.int .i64 0]:List Value) (bK σ (.cells (([.int .i64 0,.int .i64 0,.int .i64 0,.int .i64 0,.int .i64 0,.slice none 0 0,.int .i64 0]:List Value).map V.lit)) fun o σ'=>kv true (.ref o 0 0 0) σ'):=bL zk
theorem abS:fM Tryz.prog 165 u v σ ks=bZ v fun c=>aM c 7 (iS u σ c ks):=bh zk
theorem abd:fM Tryz.prog 159 u v σ ks=bZ v fun c=>aM c 1 (iS u σ c ks):=bh zk
theorem adY:fr Tryz.prog 161 u σ F=gl u σ (some 6) F:=aV zk
theorem ad6:dP Tryz.prog 161 σ kv=aD ([.int .i64 0,.int .i64 0,.int .i64 0,.slice none 0 0,.int .i64 0,.bool false]:List Value) (bK σ (.cells (([.int .i64 0,.int .i64 0,.int .i64 0,.slice none 0 0,.int .i64 0,.bool false]:List Value).map V.lit)) fun o σ'=>kv true (.ref o 0 0 0) σ'):=bL zk
theorem acT:fM Tryz.prog 161 u v σ ks=bZ v fun c=>aM c 6 (iS u σ c ks):=bh zk
theorem aeU:fr Tryz.prog 201 u σ F=gl u σ (some 2) F:=aV zk
theorem abG:dP Tryz.prog 201 σ kv=aD ([.slice none 0 0,.int .i64 0]:List Value) (bK σ (.cells (([.slice none 0 0,.int .i64 0]:List Value).map V.lit)) fun o σ'=>kv true (.ref o 0 0 0) σ'):=bL zk
theorem abF:fM Tryz.prog 201 u v σ ks=bZ v fun c=>aM c 2 (iS u σ c ks):=bh zk
theorem afS:fr Tryz.prog 42 u σ F=gl u σ (some 11) F:=aV zk
theorem agZ:fM Tryz.prog 42 u v σ ks=bZ v fun c=>aM c 11 (iS u σ c ks):=bh zk
theorem agn {ps:List (Nat×V)}:dO Tryz.prog 93 ps F=aD ([.int .i64 0,.int .i64 0,.int .i64 0]:List Value) (az (aH Tryz.prog 93) ps (([.int .i64 0,.int .i64 0,.int .i64 0]:List Value).map V.lit) fun l=>F true (.agg l)):=bC zk zk zk
theorem WO {r:List (Nat×V)} {G:List V→Prop}:az (aH Tryz.prog 93) ((0,u)::r) us G=bZ u fun c=>aM c 1 (dm us 0 c fun l'=>az (aH Tryz.prog 93) r l' G):=au zk
theorem YU {r:List (Nat×V)} {G:List V→Prop}:az (aH Tryz.prog 93) ((1,u)::r) us G=bZ u fun c=>aM c 1 (dm us 1 c fun l'=>az (aH Tryz.prog 93) r l' G):=au zk
theorem Z2 {r:List (Nat×V)} {G:List V→Prop}:az (aH Tryz.prog 93) ((2,u)::r) us G=bZ u fun c=>aM c 1 (dm us 2 c fun l'=>az (aH Tryz.prog 93) r l' G):=au zk
theorem XD:aN Tryz.prog 42 (.ref o z i' off) 6 F=F true (.ref o z i' (off+10)):=aq (x:=10) (ag:=false) (m:=1) zk
theorem ahk:fM Tryz.prog 40 u v σ ks=bZ v fun c=>aM c 1 (iS u σ c ks):=bh zk
theorem afL {ps:List (Nat×V)}:dO Tryz.prog 88 ps F=aD ([.int .i64 0,.int .i64 0,.int .i64 0,.int .i64 0,.int .i64 0]:List Value) (az (aH Tryz.prog 88) ps (([.int .i64 0,.int .i64 0,.int .i64 0,.int .i64 0,.int .i64 0]:List Value).map V.lit) fun l=>F true (.agg l)):=bC zk zk zk
theorem WT {r:List (Nat×V)} {G:List V→Prop}:az (aH Tryz.prog 88) ((0,u)::r) us G=bZ u fun c=>aM c 1 (dm us 0 c fun l'=>az (aH Tryz.prog 88) r l' G):=au zk
theorem Ym {r:List (Nat×V)} {G:List V→Prop}:az (aH Tryz.prog 88) ((1,u)::r) us G=bZ u fun c=>aM c 1 (dm us 1 c fun l'=>az (aH Tryz.prog 88) r l' G):=au zk
theorem YZ {r:List (Nat×V)} {G:List V→Prop}:az (aH Tryz.prog 88) ((2,u)::r) us G=bZ u fun c=>aM c 3 (dm us 2 c fun l'=>az (aH Tryz.prog 88) r l' G):=au zk
theorem ZO:aN Tryz.prog 42 (.ref o z i' off) 5 F=F true (.ref o z i' (off+9)):=aq (x:=9) (ag:=false) (m:=1) zk
theorem ag5:fM Tryz.prog 39 u v σ ks=bZ v fun c=>aM c 1 (iS u σ c ks):=bh zk
theorem afU {ps:List (Nat×V)}:dO Tryz.prog 81 ps F=aD ([.int .i64 0,.int .i64 0,.int .i64 0]:List Value) (az (aH Tryz.prog 81) ps (([.int .i64 0,.int .i64 0,.int .i64 0]:List Value).map V.lit) fun l=>F true (.agg l)):=bC zk zk zk
theorem Xp {r:List (Nat×V)} {G:List V→Prop}:az (aH Tryz.prog 81) ((0,u)::r) us G=bZ u fun c=>aM c 1 (dm us 0 c fun l'=>az (aH Tryz.prog 81) r l' G):=au zk
theorem XA {r:List (Nat×V)} {G:List V→Prop}:az (aH Tryz.prog 81) ((1,u)::r) us G=bZ u fun c=>aM c 1 (dm us 1 c fun l'=>az (aH Tryz.prog 81) r l' G):=au zk
theorem WY {r:List (Nat×V)} {G:List V→Prop}:az (aH Tryz.prog 81) ((2,u)::r) us G=bZ u fun c=>aM c 1 (dm us 2 c fun l'=>az (aH Tryz.prog 81) r l' G):=au zk
theorem aa1:aN Tryz.prog 42 (.ref o z i' off) 4 F=F true (.ref o z i' (off+8)):=aq (x:=8) (ag:=false) (m:=1) zk
theorem agc:fM Tryz.prog 38 u v σ ks=bZ v fun c=>aM c 1 (iS u σ c ks):=bh zk
theorem WQ:aN Tryz.prog 42 (.ref o z i' off) 1 F=F true (.ref o z i' (off+1)):=aq (x:=1) (ag:=true) (m:=3) zk
theorem Wt:aN Tryz.prog 42 (.ref o z i' off) 3 F=F true (.ref o z i' (off+7)):=aq (x:=7) (ag:=false) (m:=1) zk
theorem Xj:aN Tryz.prog 42 (.ref o z i' off) 2 F=F true (.ref o z i' (off+4)):=aq (x:=4) (ag:=true) (m:=3) zk
theorem afX {ps:List (Nat×V)}:dO Tryz.prog 42 ps F=aD ([.int .i64 0,.int .i64 0,.int .i64 0,.int .i64 0,.int .i64 0,.int .i64 0,.bool false,.pointer none,.pointer none,.pointer none,.pointer none]:List Value) (az (aH Tryz.prog 42) ps (([.int .i64 0,.int .i64 0,.int .i64 0,.int .i64 0,.int .i64 0,.int .i64 0,.bool false,.pointer none,.pointer none,.pointer none,.pointer none]:List Value).map V.lit) fun l=>F true (.agg l)):=bC zk zk zk
theorem Z3 {r:List (Nat×V)} {G:List V→Prop}:az (aH Tryz.prog 42) ((0,u)::r) us G=bZ u fun c=>aM c 1 (dm us 0 c fun l'=>az (aH Tryz.prog 42) r l' G):=au zk
theorem ahV:dP Tryz.prog 42 σ kv=aD ([.int .i64 0,.int .i64 0,.int .i64 0,.int .i64 0,.int .i64 0,.int .i64 0,.bool false,.pointer none,.pointer none,.pointer none,.pointer none]:List Value) (bK σ (.cells (([.int .i64 0,.int .i64 0,.int .i64 0,.int .i64 0,.int .i64 0,.int .i64 0,.bool false,.pointer none,.pointer none,.pointer none,.pointer none]:List Value).map V.lit)) fun o σ'=>kv true (.ref o 0 0 0) σ'):=bL zk
theorem ad0 {ps:List (Nat×V)}:dO Tryz.prog 201 ps F=aD ([.slice none 0 0,.int .i64 0]:List Value) (az (aH Tryz.prog 201) ps (([.slice none 0 0,.int .i64 0]:List Value).map V.lit) fun l=>F true (.agg l)):=bC zk zk zk
theorem VZ {r:List (Nat×V)} {G:List V→Prop}:az (aH Tryz.prog 201) ((0,u)::r) us G=bZ u fun c=>aM c 1 (dm us 0 c fun l'=>az (aH Tryz.prog 201) r l' G):=au zk
theorem aeh:mF Tryz.prog 47 (.row 1 (L.map f)) lo hi none F=ec hi L.length L.length fun h=>ec lo 0 h fun x=>F true (.row 1 (((L.take h).drop x).map f)):=oT (et:=5) zk
theorem V9:AQ Tryz.prog 47 47 u v σ kv=iG v σ 1 fun m=>Ed 1 u m σ kv:=Nc (et:=5) (ex:=5) zk zk
theorem af8:pq Tryz.prog 47 u v σ kv=ki 1 1 [.int .u8 0] u v σ kv:=nO (et:=5) zk zk zk
theorem So (h:0≤a∧a*1≤140737488355328):ki 1 1 [.int .u8 0] (.lit (.int .i64 a)) (.lit (.int .i64 a)) σ kv=bK σ (.row 1 (dV [.int .u8 0] a.toNat)) fun o σ'=>kv true (.sl o 1 0 a.toNat) σ':=by
 rw[qn (C:=[.int .u8 0]) (z:=1) ⟨h.1,rfl,h.2,by omega,by decide⟩ rfl];simp[aD,bD]
theorem acQ (h:m*1≤140737488355328):ki 1 1 [.int .u8 0] (.lit (.int .i64 m)) (.lit (.int .i64 m)) σ kv=bK σ (.row 1 (dV [.int .u8 0] m)) fun o σ'=>kv true (.sl o 1 0 m) σ':=So zo
theorem UB:aN Tryz.prog 176 (.ref o z i' off) 1 F=F true (.ref o z i' (off+1)):=aq (x:=1) (ag:=false) (m:=1) zk
theorem VO:aN Tryz.prog 176 (.ref o z i' off) 0 F=F true (.ref o z i' off):=aq (x:=0) (ag:=false) (m:=1) zk
theorem ab2:dP Tryz.prog 176 σ kv=aD ([.int .u64 0,.int .i64 0]:List Value) (bK σ (.cells (([.int .u64 0,.int .i64 0]:List Value).map V.lit)) fun o σ'=>kv true (.ref o 0 0 0) σ'):=bL zk
theorem Wq {ps:List (Nat×V)}:gV Tryz.prog 76 1 ps σ kv=fD 3 0 ps fun l=>aM l 1 (bK σ (.row 3 l) fun o σ'=>kv true (.sl o 3 0 1) σ'):=dp (et:=36) zk ⟨by kernel_rfl,by decide,by decide⟩
theorem ahe:fr Tryz.prog 40 u σ F=gl u σ (none) F:=aV zk
theorem Ti {ps:List (Nat×V)}:gV Tryz.prog 100 2 ps σ kv=fD 1 0 ps fun l=>aM l 2 (bK σ (.row 1 l) fun o σ'=>kv true (.sl o 1 0 2) σ'):=dp (et:=3) zk ⟨by kernel_rfl,by decide,by decide⟩
theorem Py:mW Tryz.prog e 100 100 u v σ kv=iG v σ 1 fun m=>oD e 1 8 u m σ kv:=gT (et:=3) (ex:=3) (C:=[.int .i64 0]) zk zk zk zk zd rfl
theorem ahD:fr Tryz.prog 39 u σ F=gl u σ (none) F:=aV zk
theorem afw:fr Tryz.prog 38 u σ F=gl u σ (none) F:=aV zk
theorem UA {ps:List (Nat×V)}:gV Tryz.prog 100 4 ps σ kv=fD 1 0 ps fun l=>aM l 4 (bK σ (.row 1 l) fun o σ'=>kv true (.sl o 1 0 4) σ'):=dp (et:=3) zk ⟨by kernel_rfl,by decide,by decide⟩
theorem Y5:aN Tryz.prog 42 (.ref o z i' off) 0 F=F true (.ref o z i' off):=aq (x:=0) (ag:=false) (m:=1) zk
theorem UP {P:Program} {t:TypeId}:aQ P .and t (.lit (.int .u64 a)) (.lit (.int .u64 1)) F=F true (.lit (.int .u64 (a%2))):=dt 1 zd zd zd
theorem acZ {x:Option Addr}:aQ Tryz.prog .neq 40 (.lit (.pointer x)) (.lit (.pointer none)) F=F true (.lit (.bool (!x.isNone))):=nH zk
theorem aeS {o z i off:Nat}:aQ Tryz.prog .neq 40 (.ref o z i off) (.lit (.pointer none)) F=F true (.lit (.bool true)):=tA zk
theorem Yr {z i off:Nat}:aQ Tryz.prog .neq 40 (.rref z l i off) (.lit (.pointer none)) F=F true (.lit (.bool true)):=lV zk
theorem abj {x:Option Addr}:aQ Tryz.prog .neq 39 (.lit (.pointer x)) (.lit (.pointer none)) F=F true (.lit (.bool (!x.isNone))):=nH zk
theorem ad3 {o z i off:Nat}:aQ Tryz.prog .neq 39 (.ref o z i off) (.lit (.pointer none)) F=F true (.lit (.bool true)):=tA zk
theorem Yc {z i off:Nat}:aQ Tryz.prog .neq 39 (.rref z l i off) (.lit (.pointer none)) F=F true (.lit (.bool true)):=lV zk
theorem ab5 {x:Option Addr}:aQ Tryz.prog .neq 38 (.lit (.pointer x)) (.lit (.pointer none)) F=F true (.lit (.bool (!x.isNone))):=nH zk
theorem abk {o z i off:Nat}:aQ Tryz.prog .neq 38 (.ref o z i off) (.lit (.pointer none)) F=F true (.lit (.bool true)):=tA zk
theorem Wp {z i off:Nat}:aQ Tryz.prog .neq 38 (.rref z l i off) (.lit (.pointer none)) F=F true (.lit (.bool true)):=lV zk
theorem aeP {x:Option Addr}:aQ Tryz.prog .neq 37 (.lit (.pointer x)) (.lit (.pointer none)) F=F true (.lit (.bool (!x.isNone))):=nH zk
theorem aaH {z i off:Nat}:aQ Tryz.prog .neq 37 (.rref z l i off) (.lit (.pointer none)) F=F true (.lit (.bool true)):=lV zk
theorem adA:pq Tryz.prog 171 u v σ kv=ki 2 16 [.int .u64 0,.int .i64 0] u v σ kv:=nO (et:=176) zk zk zk
theorem MY (h:0≤a∧a*16≤140737488355328):ki 2 16 [.int .u64 0,.int .i64 0] (.lit (.int .i64 a)) (.lit (.int .i64 a)) σ kv=bK σ (.row 2 (dV [.int .u64 0,.int .i64 0] a.toNat)) fun o σ'=>kv true (.sl o 2 0 a.toNat) σ':=by
 rw[qn (C:=[.int .u64 0,.int .i64 0]) (z:=2) ⟨h.1,rfl,h.2,by omega,by decide⟩ rfl];simp[aD,bD]
theorem aaf (h:m*16≤140737488355328):ki 2 16 [.int .u64 0,.int .i64 0] (.lit (.int .i64 m)) (.lit (.int .i64 m)) σ kv=bK σ (.row 2 (dV [.int .u64 0,.int .i64 0] m)) fun o σ'=>kv true (.sl o 2 0 m) σ':=MY zo
theorem acH {ps:List (Nat×V)}:dO Tryz.prog 167 ps F=aD ([.int .u64 0,.int .u64 0]:List Value) (az (aH Tryz.prog 167) ps (([.int .u64 0,.int .u64 0]:List Value).map V.lit) fun l=>F true (.agg l)):=bC zk zk zk
theorem Vi {r:List (Nat×V)} {G:List V→Prop}:az (aH Tryz.prog 167) ((0,u)::r) us G=bZ u fun c=>aM c 1 (dm us 0 c fun l'=>az (aH Tryz.prog 167) r l' G):=au zk
theorem Wo {r:List (Nat×V)} {G:List V→Prop}:az (aH Tryz.prog 167) ((1,u)::r) us G=bZ u fun c=>aM c 1 (dm us 1 c fun l'=>az (aH Tryz.prog 167) r l' G):=au zk
theorem ZH:aN Tryz.prog 29 (.ref o z i' off) 0 F=F true (.ref o z i' off):=aq (x:=0) (ag:=false) (m:=1) zk
theorem Xx:aN Tryz.prog 29 (.ref o z i' off) 1 F=F true (.ref o z i' (off+1)):=aq (x:=1) (ag:=false) (m:=1) zk
theorem Qj {P:Program} {t:TypeId}:aQ P .and t (.lit (.int .i64 a)) (.lit (.int .i64 255)) F=F true (.lit (.int .i64 (a%256))):=dt 8 zd zd zd
theorem agI:fr Tryz.prog 23 u σ F=gl u σ (some 3) F:=aV zk
theorem Zv:aN Tryz.prog 29 (.ref o z i' off) 2 F=F true (.ref o z i' (off+2)):=aq (x:=2) (ag:=true) (m:=3) zk
theorem afJ {ps:List (Nat×V)}:dO Tryz.prog 71 ps F=aD ([.int .i64 0,.int .i64 0,.bool false]:List Value) (az (aH Tryz.prog 71) ps (([.int .i64 0,.int .i64 0,.bool false]:List Value).map V.lit) fun l=>F true (.agg l)):=bC zk zk zk
theorem af5:dP Tryz.prog 23 σ kv=aD ([.int .i64 0,.int .i64 0,.int .i64 0]:List Value) (bK σ (.cells (([.int .i64 0,.int .i64 0,.int .i64 0]:List Value).map V.lit)) fun o σ'=>kv true (.ref o 0 0 0) σ'):=bL zk
theorem ahC:fM Tryz.prog 23 u v σ ks=bZ v fun c=>aM c 3 (iS u σ c ks):=bh zk
theorem ad2:fM Tryz.prog 167 u v σ ks=bZ v fun c=>aM c 2 (iS u σ c ks):=bh zk
theorem Zm:aN Tryz.prog 26 (.ref o z i' off) 0 F=F true (.ref o z i' off):=aq (x:=0) (ag:=false) (m:=1) zk
theorem aam:aN Tryz.prog 26 (.ref o z i' off) 1 F=F true (.ref o z i' (off+1)):=aq (x:=1) (ag:=false) (m:=1) zk
theorem Uh {P:Program} {t:TypeId}:aQ P .and t (.lit (.int .i64 a)) (.lit (.int .i64 1)) F=F true (.lit (.int .i64 (a%2))):=dt 1 zd zd zd
theorem XH:aN Tryz.prog 26 (.ref o z i' off) 2 F=F true (.ref o z i' (off+2)):=aq (x:=2) (ag:=false) (m:=1) zk
theorem ag0 {ps:List (Nat×V)}:dO Tryz.prog 26 ps F=aD ([.int .i64 0,.int .i64 0,.int .i64 0]:List Value) (az (aH Tryz.prog 26) ps (([.int .i64 0,.int .i64 0,.int .i64 0]:List Value).map V.lit) fun l=>F true (.agg l)):=bC zk zk zk
theorem Xd {r:List (Nat×V)} {G:List V→Prop}:az (aH Tryz.prog 26) ((0,u)::r) us G=bZ u fun c=>aM c 1 (dm us 0 c fun l'=>az (aH Tryz.prog 26) r l' G):=au zk
theorem aaZ {r:List (Nat×V)} {G:List V→Prop}:az (aH Tryz.prog 26) ((1,u)::r) us G=bZ u fun c=>aM c 1 (dm us 1 c fun l'=>az (aH Tryz.prog 26) r l' G):=au zk
theorem YB {r:List (Nat×V)} {G:List V→Prop}:az (aH Tryz.prog 26) ((2,u)::r) us G=bZ u fun c=>aM c 1 (dm us 2 c fun l'=>az (aH Tryz.prog 26) r l' G):=au zk
theorem afG:fM Tryz.prog 26 u v σ ks=bZ v fun c=>aM c 3 (iS u σ c ks):=bh zk
theorem agD:dP Tryz.prog 26 σ kv=aD ([.int .i64 0,.int .i64 0,.int .i64 0]:List Value) (bK σ (.cells (([.int .i64 0,.int .i64 0,.int .i64 0]:List Value).map V.lit)) fun o σ'=>kv true (.ref o 0 0 0) σ'):=bL zk
theorem acu:pq Tryz.prog 159 u v σ kv=ki 2 16 [.int .i64 0,.int .i64 0] u v σ kv:=nO (et:=151) zk zk zk
theorem Nt (h:0≤a∧a*16≤140737488355328):ki 2 16 [.int .i64 0,.int .i64 0] (.lit (.int .i64 a)) (.lit (.int .i64 a)) σ kv=bK σ (.row 2 (dV [.int .i64 0,.int .i64 0] a.toNat)) fun o σ'=>kv true (.sl o 2 0 a.toNat) σ':=by
 rw[qn (C:=[.int .i64 0,.int .i64 0]) (z:=2) ⟨h.1,rfl,h.2,by omega,by decide⟩ rfl];simp[aD,bD]
theorem YX (h:m*16≤140737488355328):ki 2 16 [.int .i64 0,.int .i64 0] (.lit (.int .i64 m)) (.lit (.int .i64 m)) σ kv=bK σ (.row 2 (dV [.int .i64 0,.int .i64 0] m)) fun o σ'=>kv true (.sl o 2 0 m) σ':=Nt zo
theorem acW {ps:List (Nat×V)}:dO Tryz.prog 161 ps F=aD ([.int .i64 0,.int .i64 0,.int .i64 0,.slice none 0 0,.int .i64 0,.bool false]:List Value) (az (aH Tryz.prog 161) ps (([.int .i64 0,.int .i64 0,.int .i64 0,.slice none 0 0,.int .i64 0,.bool false]:List Value).map V.lit) fun l=>F true (.agg l)):=bC zk zk zk
theorem TH {r:List (Nat×V)} {G:List V→Prop}:az (aH Tryz.prog 161) ((0,u)::r) us G=bZ u fun c=>aM c 3 (dm us 0 c fun l'=>az (aH Tryz.prog 161) r l' G):=au zk
theorem TX {r:List (Nat×V)} {G:List V→Prop}:az (aH Tryz.prog 161) ((1,u)::r) us G=bZ u fun c=>aM c 1 (dm us 3 c fun l'=>az (aH Tryz.prog 161) r l' G):=au zk
theorem Tk {r:List (Nat×V)} {G:List V→Prop}:az (aH Tryz.prog 161) ((2,u)::r) us G=bZ u fun c=>aM c 1 (dm us 4 c fun l'=>az (aH Tryz.prog 161) r l' G):=au zk
theorem abx {o z i off:Nat}:aQ Tryz.prog .eql 37 (.ref o z i off) (.lit (.pointer none)) F=F true (.lit (.bool false)):=Ki zk
theorem agU:pq Tryz.prog 76 u v σ kv=ki 3 24 [.int .i64 0,.int .i64 0,.bool false] u v σ kv:=nO (et:=36) zk zk zk
theorem Yt (h:m<l.length):cW Tryz.prog 24 (.row 3 l) (.lit (.int i (m:Int))) F=F true (.rref 3 l m 0):=dM (et:=71) zk zd h
theorem ac0 (h:0≤a∧a<L.length):cW Tryz.prog 24 (.row 3 (L.map f)) (.lit (.int i a)) F=F true (.rref 3 (L.map f) a.toNat 0):=lL (et:=71) zk zd h
theorem Vj:mW Tryz.prog e 76 76 u v σ kv=iG v σ 3 fun m=>oD e 3 24 u m σ kv:=gT (et:=36) (ex:=36) (C:=[.int .i64 0,.int .i64 0,.bool false]) zk zk zk zk zd rfl
theorem af1:eL Tryz.prog e .len [24] [.row m l] σ kv=fL (.row m l) fun τ v=>kv τ v σ:=ed zk
theorem aed:fr Tryz.prog 173 u σ F=gl u σ (some 5) F:=aV zk
theorem adi:fM Tryz.prog 173 u v σ ks=bZ v fun c=>aM c 5 (iS u σ c ks):=bh zk
theorem acq:mF Tryz.prog 30 (.row 1 (L.map f)) lo hi none F=ec hi L.length L.length fun h=>ec lo 0 h fun x=>F true (.row 1 (((L.take h).drop x).map f)):=oT (et:=4) zk
theorem abB {ps:List (Nat×V)}:dO Tryz.prog 128 ps F=aD ([.int .i64 0,.bool false,.slice none 0 0]:List Value) (az (aH Tryz.prog 128) ps (([.int .i64 0,.bool false,.slice none 0 0]:List Value).map V.lit) fun l=>F true (.agg l)):=bC zk zk zk
theorem Wm {r:List (Nat×V)} {G:List V→Prop}:az (aH Tryz.prog 128) ((1,u)::r) us G=bZ u fun c=>aM c 1 (dm us 2 c fun l'=>az (aH Tryz.prog 128) r l' G):=au zk
theorem aci {vs:List V}:aQ Tryz.prog .eql 36 (.agg us) (.agg vs) F=kB [true,true,false] us vs fun r=>dB (zI .eql r) F:=gz zk
theorem adb {ps:List (Nat×V)}:dO Tryz.prog 112 ps F=aD ([.pointer none,.int .i64 0]:List Value) (az (aH Tryz.prog 112) ps (([.pointer none,.int .i64 0]:List Value).map V.lit) fun l=>F true (.agg l)):=bC zk zk zk
theorem UN {r:List (Nat×V)} {G:List V→Prop}:az (aH Tryz.prog 112) ((0,u)::r) us G=bZ u fun c=>aM c 1 (dm us 0 c fun l'=>az (aH Tryz.prog 112) r l' G):=au zk
theorem afl {ps:List (Nat×V)}:dO Tryz.prog 98 ps F=aD ([.slice none 0 0,.int .i64 0]:List Value) (az (aH Tryz.prog 98) ps (([.slice none 0 0,.int .i64 0]:List Value).map V.lit) fun l=>F true (.agg l)):=bC zk zk zk
theorem aaD:aN Tryz.prog 32 (.ref o z i' off) 5 F=F true (.ref o z i' (off+14)):=aq (x:=14) (ag:=false) (m:=1) zk
theorem ZX:aN Tryz.prog 32 (.ref o z i' off) 1 F=F true (.ref o z i' (off+1)):=aq (x:=1) (ag:=true) (m:=3) zk
theorem Xe:aN Tryz.prog 32 (.ref o z i' off) 2 F=F true (.ref o z i' (off+4)):=aq (x:=4) (ag:=false) (m:=1) zk
theorem ahO:fr Tryz.prog 24 u σ F=gl u σ (none) F:=aV zk
theorem Xa:aN Tryz.prog 32 (.ref o z i' off) 4 F=F true (.ref o z i' (off+8)):=aq (x:=8) (ag:=true) (m:=6) zk
theorem ahK:fr Tryz.prog 29 u σ F=gl u σ (some 6) F:=aV zk
theorem XP:aN Tryz.prog 32 (.ref o z i' off) 3 F=F true (.ref o z i' (off+5)):=aq (x:=5) (ag:=true) (m:=3) zk
theorem ahq:fr Tryz.prog 26 u σ F=gl u σ (some 3) F:=aV zk
theorem Zn:aN Tryz.prog 32 (.ref o z i' off) 0 F=F true (.ref o z i' off):=aq (x:=0) (ag:=false) (m:=1) zk
theorem Wr:aN Tryz.prog 32 (.ref o z i' off) 6 F=F true (.ref o z i' (off+15)):=aq (x:=15) (ag:=false) (m:=1) zk
theorem YW {r:List (Nat×V)} {G:List V→Prop}:az (aH Tryz.prog 42) ((1,u)::r) us G=bZ u fun c=>aM c 3 (dm us 1 c fun l'=>az (aH Tryz.prog 42) r l' G):=au zk
theorem ZQ {r:List (Nat×V)} {G:List V→Prop}:az (aH Tryz.prog 42) ((2,u)::r) us G=bZ u fun c=>aM c 3 (dm us 4 c fun l'=>az (aH Tryz.prog 42) r l' G):=au zk
theorem afe:fr Tryz.prog 32 u σ F=gl u σ (some 16) F:=aV zk
theorem Zt {r:List (Nat×V)} {G:List V→Prop}:az (aH Tryz.prog 42) ((3,u)::r) us G=bZ u fun c=>aM c 1 (dm us 7 c fun l'=>az (aH Tryz.prog 42) r l' G):=au zk
attribute [go_sem ↓] ah7 agt ahB agY ag4 agP aho agH agV aa9 agF afN abL ahS ag2 ag1 ags acG agS agG adZ aeH Uv Lp Lz LC Mg LK OG Qb adS SX Lx LB O7 acP Tf LL Lt Ln Ls O3 acB ahv afy afE afV agz ahE afk afi abb afT ahT afv agp afb ahU Uo GN GV GB GK GG GI HT ahp afI ahl acz abv ady abi Xn YG abX ab8 ae1 ab0 abR aeM aeZ aeB ae0 aeo aeR abJ adj ab6 adK WC aew adw ads aea adP ace abD ach abq acj adD aer aeA adU acw abw acF adm abm aeJ acg aeY aex abt aeg ab9 WR aaK acs abo acI adg ac3 aca ad8 ac4 abc ZB ael adQ adG S6 UQ ai4 UC aja UJ acv aco VU Xh Z5 Vh ahF ahb adl afZ agJ adq aas YL ahi Vc UI aiN acE TQ afQ ad5 agi Sa ago abW TM ahJ VQ ac1 acM abZ aek aee adH ac2 V8 UG aev ab4 aei ac5 abO Tx abr TD VL PT aez T6 VT ae3 TV Ug aeu VB Td afj abn abK SQ TW Ud SY ahZ Ue VR TF V3 Y9 aav acV V6 aby aao Uj aeV aeG ac9 Vr Wj ada acC aar aa5 age ae2 agW acR aiw ag3 acA UU Tj aeb ahz abg VI TY VP Tt afP T0 VM T7 afA Wg Vl VH U8 acK ae6 Uz SZ acS XF aaQ Wx aaV aaY aax Vm abh Va Ts S9 VX U9 TU SN abY ahR abz ab7 UZ Vq acn abI Qa Pw abN Pm OW acd PG Qr acr XB aes abU WM ado Zr Uy U7 af7 adL TE agh Zs VA PX WW Uk PS YD TK Qf Yz Uu UD abH acx Tz Tb aet S8 UT agA aeq Ut UK S3 adf aaw Yd adO UR Wf adT aaF acb T5 UE ZW Wk VF US agN Vw abT ag7 afz agk ahw ahP YF Yi YA ahW aai Z0 aaa ahf agu Zz UH Uq U2 SW agr WI U3 adM Ys Zq Yk Vk af3 ahL afg afF agq afc ZM Xm TB Yj WA aaI ajd YO ahu ZL Z9 Zg aaC Z7 aa4 XN aga Xq Ze ahH agl aaG ZU Xv Yf Z4 Zp agj ZK Xy af0 af6 aeF TA S1 acO abl aba Ux VN U1 abu acJ acU VV Vp Vu UL ad7 Te Un adI aeE afK aem Zy Tm adB aej S4 VG abV adW adN TN VW Uc afu ad4 adv abS abd adY ad6 acT aeU abG abF afS agZ agn WO YU Z2 XD ahk afL WT Ym YZ ZO ag5 afU Xp XA WY aa1 agc WQ Wt Xj afX Z3 ahV ad0 VZ V9 af8 So UB VO ab2 Wq ahe Ti Py ahD afw UA Y5 acZ aeS Yr abj ad3 Yc ab5 abk Wp aeP aaH adA MY acH Vi Wo ZH Xx agI Zv afJ af5 ahC ad2 Zm aam XH ag0 Xd aaZ YB afG agD acu Nt acW TH TX Tk abx agU Vj af1 aed adi abB Wm aci adb UN afl aaD ZX Xe ahO Xa ahK XP ahq Zn Wr YW ZQ afe Zt
attribute [go_sem ↓ high] Vt VC TI ae5 YK aeN Um Cq GJ QA Sz acm acN XL Ji Wn RP aaU IX qh G4 GS Zf Wa Wy PZ adk ZI aef abE X6 Tl TG YC UM X5 Wh Yy KG Ta Ku GO RG TL Wd Jm YR aeh acQ UP aaf Qj Uh YX Yt ac0 acq
end
end Go.Proofs.YtcnlmelpnflhnaaGreat
