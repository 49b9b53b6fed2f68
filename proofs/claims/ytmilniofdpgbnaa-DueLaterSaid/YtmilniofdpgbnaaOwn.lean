/- The generic texts, together. -/
import Derived.Test.YtmilniofdpgbnaaOwnV
