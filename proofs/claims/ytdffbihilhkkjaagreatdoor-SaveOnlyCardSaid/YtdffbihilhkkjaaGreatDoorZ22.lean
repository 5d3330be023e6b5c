import Derived.Test.YtdffbihilhkkjaaGreatDoorZ7
namespace Go.Proofs.YtdffbihilhkkjaaGreatDoor
set_option linter.unusedVariables false
set_option linter.unusedSimpArgs false
set_option maxRecDepth 100000
set_option maxHeartbeats 8000000
namespace So
def csrB (c:Csr):Bool:=c.status&&&4294967159==0&&c.enable&&&4294965111==0&&c.vector&&&2==0&&c.epc&&&3==0
def hartB (h:Hart):Bool:=h.pc&&&3==0&&h.x 0==0&&csrB h.c
def devBy (d:Int):Int:=if d=3 then 1 else 4
def devSize (d:Int):Nat:=if d=1 then 65536 else if d=2 then 4194304 else if d=3 then 8 else if d=4 then 256 else 512
def postB (p:Post):Bool:=decide (1≤p.dev)&&decide (p.dev≤6)&&decide (p.n=devBy p.dev)&&p.at_%(devBy p.dev).toNat==0&&decide (p.at_<devSize p.dev)
def queueB (q:List Post):Bool:=decide (q.length≤8)&&q.all postB
def clintB (c:Clint):Bool:=decide (c.soft≤1)
def plicB (p:Plic):Bool:=(List.range 8).all (fun i=>decide (p.pri i≤7))&&p.pri 0==0&&decide (p.threshold≤7)&&(p.enable ||| p.pending ||| p.busy)&&&4294967041==0
def fifoOk (f:Fifo):Bool:=decide (0≤f.n)&&decide (f.n≤16)&&(List.range 16).all (fun i=>decide ((i:Int)<f.n)||f.b i==0)
def uartB (u:Uart):Bool:=fifoOk u.rx&&fifoOk u.tx&&decide (u.ier≤7)&&decide (u.mcr≤31)&&decide (0≤u.wait)&&decide (u.wait<4) && !(decide (0<u.wait)&&decide (u.tx.n=0))
def dmaB (d:Dma):Bool:=decide (d.code≤3) && !(d.have_&&d.code != 1) && !(d.asks && !(d.code==2||d.code==3))&&decide (d.steps≤64) && !(d.have_&&(decide (d.left<1)||decide (65536<d.left)))&&(d.have_||(d.from_==0&&d.to==0&&d.left==0&&d.next==0))
def sizeB (n:Int):Bool:=decide (1≤n)&&decide (n≤256)&&n.toNat&&&(n.toNat-1)==0
def ringB (q:Que):Bool:=sizeB q.size&&q.desc%16==0&&q.avail%2==0&&q.used%4==0
def queB (q:Que):Bool:=if q.ready then ringB q else decide (0≤q.size)&&decide (q.size≤256)
def virtB (p:Virt):Bool:=p.status&&&4294967088==0&&decide (p.irq≤3)&&queB p.q0&&queB p.q1 && !(p.status&&&8 != 0 && !(p.drv0==0&&p.drv1==1))
def liesB (x:Seg) (pages:Int):Bool:=x.n==0||(decide (0<x.n)&&decide (2147483648≤x.at_)&&decide ((x.at_:Int)-2147483648+x.n≤min pages 16384*4096))
def segB (x:Seg) (pages:Int):Bool:=x.write&&decide (x.n≤1048576)&&liesB x pages
def room:List Seg→Int
 | []=>0
 | x::l=>(if x.write then max x.n 0 else 0)+room l
def reqB (sectors:Nat) (r:Req) (pages:Int):Bool :=
 decide (0≤r.head)&&decide (r.head<256)&&decide (512≤r.n)&&decide (r.n≤1048576)&&decide (r.n%512=0)&&r.l.all (fun x=>segB x pages)&&decide (r.l.length≤256)&&decide (r.sector≤sectors)&&decide (r.n / 512≤(sectors:Int)-r.sector)
  && (if r.write then decide (1≤room r.l)&&decide (room r.l≤1048576) else decide (room r.l=r.n+1))
def index (l:List Req) (id:Nat):Int:=match l.findIdx? (fun r=>r.id==id) with | some i=>i | none=>-1
def blkB (b:Blk) (pages:Int):Bool :=
 decide (0≤pages)&&virtB b.p&&decide (b.ins.length≤8)&&decide (index b.ins b.next<0) && !(decide (0<b.ins.length)&&b.p.status==0)
  && (List.range b.ins.length).all (fun i=>match b.ins[i]? with | some r=>reqB b.sectors r pages&&decide (index b.ins r.id=i) | none=>true)
def mayB (c:Config):Bool:=decide (1≤c.pages)&&decide (c.pages≤16384)&&decide (c.sectors≤1048576)
def stateB (c:Config) (s:State):Bool :=
 mayB c&&s.b.sectors==c.sectors&&hartB s.h&&queueB s.q&&clintB s.c&&plicB s.p&&uartB s.u&&dmaB s.d&&blkB s.b c.pages&&virtB s.n.p
end So
end Go.Proofs.YtdffbihilhkkjaaGreatDoor
